/- Joined by wip/bundle.py: XRoa0 XOpenI XSwt0 XSwtA XTcl0 XTcl1 XFrac XTop0 XTopA XTopB XTcl2 XTopC XTopD XCelA XCelB XShr0 XCelC XCelD XCelE XTcl3 XTcl4 XCcv0 XCcvA XLawCcv. -/
import Derived.Test.YtiekmbmgpachpaaGreatDoorSayA
import Derived.Test.YtiekmbmgpachpaaGreatDoorGrpGr
import Derived.Test.YtiekmbmgpachpaaGreatDoorGrpL
import Derived.Test.YtiekmbmgpachpaaGreatDoorOpenA
import Derived.Test.YtiekmbmgpachpaaGreatDoorGrpR
import Derived.Test.YtiekmbmgpachpaaGreatDoorGrpS
import Derived.Test.YtiekmbmgpachpaaGreatDoorGrpY
import Derived.Test.YtiekmbmgpachpaaGreatDoorWg
import Derived.Test.YtiekmbmgpachpaaGreatDoorPrf0
import Derived.Test.YtiekmbmgpachpaaGreatDoorGrpM
import Derived.Test.YtiekmbmgpachpaaGreatDoorEngR
import Derived.Test.YtiekmbmgpachpaaGreatDoorGrpO
import Derived.Test.YtiekmbmgpachpaaGreatDoorGrpT
import Derived.Test.YtiekmbmgpachpaaGreatDoorGrpc
import Derived.Test.YtiekmbmgpachpaaGreatDoorGrpSt
import Derived.Test.YtiekmbmgpachpaaGreatDoorGrpDr
import Derived.Test.YtiekmbmgpachpaaGreatDoorSortC
import Derived.Test.YtiekmbmgpachpaaGreatDoorGrpN
set_option maxRecDepth 100000
namespace Go.Proofs.YtiekmbmgpachpaaGreatDoor.eng
open Go.RowKit num mem seg q held ratA ratB ratC ratD ratE vars ratF trq
def intD (n:Int):List D:= [.v (.int .i64 n)]
section
variable {d : Nat → Rat}
end
end Go.Proofs.YtiekmbmgpachpaaGreatDoor.eng
namespace Go.Proofs.YtiekmbmgpachpaaGreatDoor.argopen
open Go.RowKit Go.ChangeShapes Go.WideShapes Go.ChangeAt num mem seg q eng
variable {H : Type} {enc : TypeId × Value → H} {w : World} {base : Nat} {sp : Nat → Bool} {held : Bool} {I : Nat → Prop}
def Rint (x:Int) (d:DataW H):Prop:=1≤Rows.uptoBulk d∧-9223372036854775808≤x∧x≤9223372036854775807
theorem ZjX {fuel:Nat} {cs:List Value} {x:DataW H×List MemPlace} (h:DataW.trod enc Tryz.prog w base sp held fuel 3 cs=some x):∃ a:Int,Rint a x.1∧Cells w I cs (eng.intD a):=by
 obtain⟨k,rfl,rfl,hw⟩:=DataW.trod_int Tryz.underlying3 h
 have:-9223372036854775808≤k∧k≤9223372036854775807:=by have:=hw;simp [Lit.wf,IntKind.min,IntKind.max,IntKind.signed,IntKind.bits] at this;omega
 exact⟨k,⟨by simp only [Rows.uptoBulk];omega,this⟩,Cells.nil.cons (Den.v _ rfl)⟩
def intsZ (l:List Int) (B:Nat):Prop:=l.length≤B∧∀ x,x∈l→-9223372036854775808≤x∧x≤9223372036854775807
theorem ZjN {l:List Int} {B C:Nat} (h:intsZ l B) (hB:B≤C):intsZ l C:=⟨Nat.le_trans h.1 hB,h.2⟩
theorem ZfB {r:Reach} {b0:Nat} {v:Value} {d:DataW H} {ps:List MemPlace} (hval:Value.okWide Tryz.prog w r b0 22 v) (hd:DataW.Trod enc Tryz.prog w base sp held 22 v d ps) (hI:∀ b,b< w.heap.size→I b):
  ∃ l:List Int,Den w I v (.list (l.map eng.intD))∧intsZ l (Rows.uptoBulk d):=by
 obtain⟨av,len,cap,rfl⟩:=okWide_slice Tryz.underlying22 hval
 obtain⟨fuel,hf⟩:=hd
 obtain⟨v,l,ds,g2,hdl,hr,hx⟩:=ZiO (R:=Rint) eng.intD (by decide) (fun _=>rfl) Tryz.underlying22 (by kernel_rfl) (fun fuel cs x h=>ZjX h) hI hf
 obtain⟨h1,h2,h3⟩:=ZjI (d:=d) hr hx fun a x h=>h.1
 obtain rfl:=(List.cons.inj g2).1
 exact⟨l,hdl,by omega,fun k hk=>by obtain⟨x,⟨_,a⟩,g⟩:=h3 k hk;exact a⟩
end Go.Proofs.YtiekmbmgpachpaaGreatDoor.argopen
namespace Go.Proofs.YtiekmbmgpachpaaGreatDoor.eng
open Go.RowKit num mem seg q held ratA ratB ratC ratD ratE vars ratF trq
section
variable {K : AV → Prop}
end
end Go.Proofs.YtiekmbmgpachpaaGreatDoor.eng
namespace Go.Proofs.YtiekmbmgpachpaaGreatDoor.eng
open Go.RowKit num mem seg q held ratA ratB ratC ratD ratE vars ratF trq prf
section
variable {K : AV → Prop}
end
end Go.Proofs.YtiekmbmgpachpaaGreatDoor.eng
namespace Go.Proofs.YtiekmbmgpachpaaGreatDoor.eng
open Go.RowKit num mem seg q held ratA ratB ratC ratD ratE vars ratF trq
end Go.Proofs.YtiekmbmgpachpaaGreatDoor.eng
namespace Go.Proofs.YtiekmbmgpachpaaGreatDoor.eng
open Go.RowKit num mem seg q held ratA ratB ratC ratD ratE vars ratF trq
theorem Zln {a b n:Int}:n∈ivl a b↔a≤n∧n≤b:=by
 unfold ivl
 rw [List.mem_map]
 constructor
 ·rintro⟨i,hi,rfl⟩
  have:=List.mem_range.1 hi
  omega
 ·rintro⟨h1,h2⟩
  exact⟨(n - a).toNat,List.mem_range.2 (by omega),by omega⟩
theorem ZjG {xs ys:List Int} {c:Int×Int}:c∈cellsL xs ys↔c.1∈xs∧c.2∈ys:=by
 unfold cellsL
 rw [List.mem_flatMap]
 constructor
 ·rintro⟨v,hv,h⟩
  obtain⟨u,hu,rfl⟩:=List.mem_map.1 h
  exact⟨hu,hv⟩
 ·rintro⟨h1,h2⟩
  exact⟨c.2,h2,List.mem_map.2 ⟨c.1,h1,rfl⟩⟩
theorem Zbj {p q:Rat} (h:p≤q):c1 p≤c1 q:=by
 unfold c1
 exact Rat.le_floor_iff.2 (Rat.le_trans (Rat.le_floor_iff.1 (Int.le_refl _)) h)
theorem Zdw {p q:Rat} (h:p≤q):c0 p≤c0 q:=by
 have h1:-q≤-p:=by grind
 have:=Zbj h1
 unfold c0;unfold c1 at this;omega
theorem Zjs {x y z t:RV} (hx:x.q≤z.q) (hy:y.q≤t.q) (h1:-4≤x.q) (h2:z.q≤4) (h3:-4≤y.q) (h4:t.q≤4):gridR x y z t=(cellsL (ivl (c0 x.q) (c1 z.q)) (ivl (c0 y.q) (c1 t.q)),0):=by
 have e0:c0 (-4)=-5:=by decide+kernel
 have e1:c1 4=4:=by decide+kernel
 have a1:=Zdw h1;have a2:=Zbj h2;have a3:=Zdw h3;have a4:=Zbj h4
 rw [e0] at a1 a3
 rw [e1] at a2 a4
 have b1:=Zy hx;have b2:=Zy hy
 have q1:((-64:Int):Rat)< -4:=by decide+kernel
 have q2:(4:Rat)< ((64:Int):Rat):=by decide+kernel
 unfold gridR
 rw [if_pos ⟨hx,hy⟩,if_pos ⟨⟨by grind,by grind⟩,⟨by grind,by grind⟩⟩,if_neg]
 have hm:(c1 z.q - c0 x.q+1)*(c1 t.q - c0 y.q+1)≤10*10:=Int.mul_le_mul (by omega) (by omega) (by omega) (by omega)
 omega
end Go.Proofs.YtiekmbmgpachpaaGreatDoor.eng
namespace Go.Proofs.YtiekmbmgpachpaaGreatDoor.eng
open Go.RowKit num mem seg q held ratA ratB ratC
theorem Zjv (n:Int) (d:Nat) (hd:0< d):((n:Rat) / (d:Rat)).num=n / (Nat.gcd n.natAbs d:Int)∧((n:Rat) / (d:Rat)).den=d / Nat.gcd n.natAbs d:=by
 have hg:0< Nat.gcd n.natAbs d:=Nat.gcd_pos_of_pos_right _ hd
 obtain⟨m,hm⟩:(Nat.gcd n.natAbs d:Int) ∣ n:=Int.ofNat_dvd_left.2 (Nat.gcd_dvd_left _ _)
 obtain⟨e,he⟩:=Nat.gcd_dvd_right n.natAbs d
 have hgz:(Nat.gcd n.natAbs d:Int)≠0:=by omega
 have hm2:n / (Nat.gcd n.natAbs d:Int)=m:=by
  conv=>lhs;lhs;rw [hm]
  exact Int.mul_ediv_cancel_left m hgz
 have he2:d / Nat.gcd n.natAbs d=e:=by
  conv=>lhs;lhs;rw [he]
  exact Nat.mul_div_cancel_left e hg
 have he0:e≠0:=by
  rintro rfl
  omega
 have hc:Nat.Coprime m.natAbs e:=by
  have h1:n.natAbs=Nat.gcd n.natAbs d*m.natAbs:=by
   conv=>lhs;rw [hm]
   rw [Int.natAbs_mul,Int.natAbs_natCast]
  have h2:=Nat.coprime_div_gcd_div_gcd hg
  rw [he2] at h2
  have h3:n.natAbs / Nat.gcd n.natAbs d=m.natAbs:=by
   conv=>lhs;lhs;rw [h1]
   exact Nat.mul_div_cancel_left _ hg
  rwa [h3] at h2
 have hq:(n:Rat) / (d:Rat)=⟨m,e,he0,hc⟩:=by
  have h1:(m:Rat) / (e:Rat)=⟨m,e,he0,hc⟩:=by rw [← Rat.mkRat_eq_div];exact Rat.mkRat_self ⟨m,e,he0,hc⟩
  rw [← h1]
  have e1:(n:Rat)=((Nat.gcd n.natAbs d:Nat):Rat)*(m:Rat):=by
   conv=>lhs;rw [hm]
   rw [Rat.intCast_mul];rfl
  have e2:(d:Rat)=((Nat.gcd n.natAbs d:Nat):Rat)*(e:Rat):=by
   conv=>lhs;rw [he]
   rw [Rat.natCast_mul]
  have hgq:((Nat.gcd n.natAbs d:Nat):Rat)≠0:=by
   intro h;have:=Rat.natCast_eq_zero_iff.1 h;omega
  have heq:(e:Rat)≠0:=by
   intro h;have:=Rat.natCast_eq_zero_iff.1 h;omega
  rw [e1,e2]
  grind
 rw [hq,hm2,he2]
 exact⟨rfl,rfl⟩
theorem Zpx (n:Int) (d:Nat) (hd:0< d):cn ((n:Rat) / (d:Rat))=⟨decide (n< 0),enc (n.natAbs / Nat.gcd n.natAbs d),enc (d / Nat.gcd n.natAbs d)⟩:=by
 obtain⟨h1,h2⟩:=Zjv n d hd
 have hg:0< Nat.gcd n.natAbs d:=Nat.gcd_pos_of_pos_right _ hd
 have hdv:Nat.gcd n.natAbs d ∣ n.natAbs:=Nat.gcd_dvd_left _ _
 unfold cn
 rw [h1,h2]
 have e1:(n / (Nat.gcd n.natAbs d:Int)).natAbs=n.natAbs / Nat.gcd n.natAbs d:=by
  rw [Int.natAbs_ediv_of_dvd (Int.ofNat_dvd_left.2 hdv),Int.natAbs_natCast]
 have e2:decide (n / (Nat.gcd n.natAbs d:Int)< 0)=decide (n< 0):=by
  refine decide_eq_decide.2 ⟨fun h=> ?_,fun h=>Int.ediv_neg_of_neg_of_pos h (by omega)⟩
  by_cases g:n< 0
  ·exact g
  ·exact absurd h (by have:=Int.ediv_nonneg (a:=n) (b:=(Nat.gcd n.natAbs d:Int)) (by omega) (by omega);omega)
 rw [e1,e2]
end Go.Proofs.YtiekmbmgpachpaaGreatDoor.eng
namespace Go.Proofs.YtiekmbmgpachpaaGreatDoor.eng
open Go.RowKit num mem seg q held ratA ratB ratC ratD ratE vars ratF natC natD natI sub32
section
variable {K : AV → Prop} {T : TypeId} {ox oy : Operand}
theorem Zmz (T:TypeId) (ox oy:Operand) (x y:Int) (hy:y≠0) (w:World):(do eqGuard .rem T ox oy (.int .i64 x) (.int .i64 y);binOp .rem T (.int .i64 x) (.int .i64 y):Sem Value).run Tryz.prog w= .ok (.int .i64 (x.tmod y)) w:=by
 have hg:eqGuard .rem T ox oy (.int .i64 x) (.int .i64 y)=pure ():=rfl
 rw [hg,binOp_rem]
 unfold Op.intDiv
 rw [if_neg hy]
 rfl
theorem Zqv {x y:Int} (r:Int) (hy:y≠0) (hr:x.tmod y=r) (k:K (int r)):AskB .rem T ox oy (.int .i64 x) (.int .i64 y) K:=⟨_,⟨_,rfl,rfl,Zmz T ox oy x y hy⟩,by rw [hr];exact k⟩
theorem ZmC (T:TypeId) (ox oy:Operand) (x y r:Int) (hy:y≠0) (hr:IntKind.i64.wrap (x.tdiv y)=r) (w:World):(do eqGuard .quo T ox oy (.int .i64 x) (.int .i64 y);binOp .quo T (.int .i64 x) (.int .i64 y):Sem Value).run Tryz.prog w= .ok (.int .i64 r) w:=by
 have hb:Op.intDiv .quo .i64 x y=pure (.int .i64 r):=by
  unfold Op.intDiv
  rw [if_neg hy]
  show pure (Value.int .i64 (IntKind.i64.wrap (x.tdiv y)))=_
  rw [hr]
 rw [eqGuard_quo,binOp_quo,hb]
 rfl
theorem Zn5 {x y:Int} (r:Int) (hy:y≠0) (hr:IntKind.i64.wrap (x.tdiv y)=r) (k:K (int r)):AskB .quo T ox oy (.int .i64 x) (.int .i64 y) K:=⟨_,⟨_,rfl,rfl,ZmC T ox oy x y r hy hr⟩,k⟩
end
def stD (n:Int):List D:= [D.v (.int .i64 n)]
def nextV (l:List Int) (n:Int):Int:=match l with
 | []=>0
 |x :: _=>if n< 1 then 0 else x % n
def nextL (l:List Int) (n:Int):List Int:=match l with
 | []=> []
 |x :: r=>if n< 1 then x :: r else r
theorem ZcG {l:List Int} {n:Int} (h:1≤n):0≤nextV l n∧nextV l n< n:=by
 unfold nextV
 split
 ·omega
 ·rw [if_neg (by omega)]
  exact⟨Int.emod_nonneg _ (by omega),Int.emod_lt_of_pos _ (by omega)⟩
theorem ZaJ {l:List Int} {n x:Int} (h:x∈nextL l n):x∈l:=by
 unfold nextL at h
 split at h
 ·exact h
 ·split at h
  ·exact h
  ·exact List.mem_cons_of_mem _ h
theorem ZnB {x n:Int} (hn:1≤n):(if x.tmod n< 0 then x.tmod n+n else x.tmod n)=x % n:=by
 have h1:=Int.emod_nonneg x (show n≠0 by omega)
 have h2:=Int.emod_lt_of_pos x (show 0< n by omega)
 rw [Int.tmod_eq_emod]
 by_cases hx:0≤x∨n ∣ x
 ·simp only [if_pos hx]
  split<;>omega
 ·simp only [if_neg hx]
  split<;>omega
end Go.Proofs.YtiekmbmgpachpaaGreatDoor.eng
namespace Go.Proofs.YtiekmbmgpachpaaGreatDoor.eng
open Go.RowKit num mem seg q held ratA ratB ratC ratD ratE vars ratF prf natC natD natI sub32
section
variable {K : AV → Prop}
theorem ZaQ (x n:Int) (_:-9223372036854775808≤x∧x≤9223372036854775807) (hn:1≤n∧n≤1073741824):Spec Tryz.prog Tab 25 [int x,int n] (int (x % n)):=by
 have hb:=ZnB (x:=x) hn.1
 have ht1:-n< x.tmod n∧x.tmod n< n:=⟨Int.lt_tmod_of_pos x (by omega),Int.tmod_lt_of_pos x (by omega)⟩
 refine Zd Tryz.func25 rfl rfl Tryz.ntmps25 rfl (by kernel_rfl) rfl rfl ?_
 refine Zqv (x.tmod n) (by omega) rfl ?_
 refine⟨fun e1=> ?_,fun e1=> ?_⟩
 ·have f9:x.tmod n< 0:=of_decide_eq_true e1
  refine Eq.trans (b:=int (IntKind.i64.wrap ((x.tmod n)+n))) ?_ rfl
  rw [← hb,if_pos f9,wrap64 _ (by omega) (by omega)]
 ·have f9:¬ (x.tmod n< 0):=of_decide_eq_false e1
  refine Eq.trans (b:=int (x.tmod n)) ?_ rfl
  rw [← hb,if_neg f9]
theorem ZpI (l:List Int) (h:l= []) (n:Int):SpecV Tryz.prog Tab 80 [.val (.one (.ptr 1000 0)),int n] 85 [D.list (List.map stD l)] (int 0) [D.list (List.map stD l)]:=by
 refine fn_V 0 [] Tryz.func80 rfl rfl Tryz.ntmps80 rfl (by kernel_rfl) rfl rfl rfl ?_
 refine fork (fun e1=> ?_) (fun e1=> ?_)
 ·have f12:((List.map stD l).length:Int)=0:=ZaN e1
  refine⟨fun _=> ?_,fun e=>absurd e (by decide)⟩
  refine⟨Eq.trans (b:=int 0) ?_ rfl,rfl,?_⟩
  rfl
  rfl
 ·have f12:¬ (((List.map stD l).length:Int)=0):=ZaO e1
  exfalso
  exact f12 (by rw [h];rfl)
theorem ZpH (x:Int) (l m:List Int) (hm:m=x :: l) (n:Int) (hx:-9223372036854775808≤x∧x≤9223372036854775807) (hn:1≤n∧n≤1073741824):SpecV Tryz.prog Tab 80 [.val (.one (.ptr 1000 0)),int n] 85 [D.list (List.map stD m)] (int (x % n)) [D.list (List.map stD (m.drop 1))]:=by
 have hml:(List.map stD m).length=l.length+1:=by rw [hm];simp
 have hml2:m.length=l.length+1:=by rw [hm];simp
 refine fn_V 0 [] Tryz.func80 rfl rfl Tryz.ntmps80 rfl (by kernel_rfl) rfl rfl rfl ?_
 refine fork (fun e1=> ?_) (fun e1=> ?_)
 ·have f12:((List.map stD m).length:Int)=0:=ZaN e1
  exfalso
  omega
 ·have f12:¬ (((List.map stD m).length:Int)=0):=ZaO e1
  refine⟨fun e2=> ?_,fun e2=> ?_⟩
  ·have f15:n< 1:=of_decide_eq_true e2
   exfalso
   omega
  ·have f15:¬ (n< 1):=of_decide_eq_false e2
   refine get_ex (l:=m) (i:=0) (by first|omega|exact Nat.mod_lt _ (by omega)) fun x20 hx20=> ?_
   have ex:x20=x:=by
    rw [hm] at hx20
    exact(Option.some.inj hx20).symm
   refine k_ix 0 [D.v (.int .i64 (x20))] (by first|rfl|omega|(rw [wrap64 _ (by omega) (by omega)];omega)|(rw [wrap64 _ (by omega) (by omega)];split<;>omega)) (Zj hx20) rfl ?_
   refine Zoa 1 (List.map stD (m.drop 1)) (by first|omega|(simp;omega)|simp) (by first|rfl|omega|(rw [wrap64 _ (by omega) (by omega)];omega)|(rw [wrap64 _ (by omega) (by omega)];split<;>omega)) (ZeJ fun _=>rfl) (List.map_drop.symm) ?_
   refine use (ZaQ x20 n (by omega) (by omega)) rfl ?_
   refine⟨Eq.trans (b:=int (x20 % n)) ?_ rfl,rfl,?_⟩
   rw [ex]
   rfl
theorem Ze3 (n:Int) (d:Nat) (hn:-256< n∧n< 256) (hd:1≤d∧d< 256):Spec Tryz.prog Tab 39 [int n,int (d:Int)] (rat (cn ((n:Rat) / (d:Rat)))):=by
 refine Zd Tryz.func39 rfl rfl Tryz.ntmps39 rfl (by kernel_rfl) rfl rfl ?_
 refine⟨Nat×Nat,fun (a,b)=> [(0,int n),(1,int (d:Int)),(4,.val (.one (.ptr 4 0))),(5,int (a:Int)),(6,int (b:Int))],
  fun (a,b)=> [(4,.var 27 [.d (.v (.bool z0.s)),.d (.v (.string z0.a)),.d (.v (.string z0.d))])],fun (a,b)=>Nat.gcd a b=Nat.gcd n.natAbs d∧a< 256∧b< 256∧(0< a∨0< b),fun (a,b)=>b,(n.natAbs,d),?_,⟨rfl,by omega,by omega,.inr (by omega)⟩,fun s hs=> ?_⟩
 ·constructor<;>(repeat' (first|exact rfl|exact True.intro|exact⟨_,_,rfl⟩|exact(by decide)|apply And.intro))
  all_goals first
   |exact congrArg (fun n:Int=>D.v (.int .i64 n)) (by rw [wrap64 _ (by omega) (by omega)];split<;>omega)
 obtain⟨a,b⟩:=s
 obtain⟨g1,g2,g3,g4⟩:=hs
 refine⟨fun e1=> ?_,fun e1=> ?_⟩
 ·have f13:(b:Int) >0:=of_decide_eq_true e1
  refine Zdd a b (by first|rfl|omega|(rw [wrap64 _ (by omega) (by omega)];omega)|(rw [wrap64 _ (by omega) (by omega)];split<;>omega)) (by first|rfl|omega|(rw [wrap64 _ (by omega) (by omega)];omega)|(rw [wrap64 _ (by omega) (by omega)];split<;>omega)) (by omega) ?_
  refine⟨by kernel_rfl,?_⟩
  refine⟨(b,a % b),⟨by rw [← g1,Nat.gcd_comm a b,Nat.gcd_comm b (a % b)];exact(Nat.gcd_rec b a).symm,g3,by have:=Nat.mod_lt a (show 0< b by omega);omega,.inl (by omega)⟩,by have:=Nat.mod_lt a (show 0< b by omega);simp only;omega,?_⟩
  constructor<;>(repeat' (first|exact rfl|exact True.intro|apply And.intro))
  all_goals first
   |exact congrArg (fun n:Int=>D.v (.int .i64 n)) (by rw [wrap64 _ (by omega) (by omega)];omega)
   |exact congrArg (fun n:Int=>D.v (.int .i64 n)) (by omega)
 ·have f13:¬ ((b:Int) >0):=of_decide_eq_false e1
  obtain rfl:b=0:=by omega
  rw [Nat.gcd_zero_right] at g1
  have ha:0< a:=by omega
  have hdn:a ∣ n.natAbs:=by rw [g1];exact Nat.gcd_dvd_left _ _
  have hdv:(a:Int) ∣ n:=Int.ofNat_dvd_left.2 hdn
  have hqa:(n / (a:Int)).natAbs=n.natAbs / a:=by rw [Int.natAbs_ediv_of_dvd hdv,Int.natAbs_natCast]
  have hq1:=Nat.div_le_self n.natAbs a
  have hq2:=Nat.div_le_self d a
  have hsg:decide (n / (a:Int)< 0)=decide (n< 0):=by
   refine decide_eq_decide.2 ⟨fun h=> ?_,fun h=>Int.ediv_neg_of_neg_of_pos h (by omega)⟩
   by_cases g:n< 0
   ·exact g
   ·exact absurd h (by have:=Int.ediv_nonneg (a:=n) (b:=(a:Int)) (by omega) (by omega);omega)
  refine Zn5 (n / (a:Int)) (by omega) (by rw [Int.tdiv_eq_ediv_of_dvd hdv,wrap64 _ (by omega) (by omega)]) ?_
  refine Zn6 d a (by first|rfl|omega|(rw [wrap64 _ (by omega) (by omega)];omega)|(rw [wrap64 _ (by omega) (by omega)];split<;>omega)) (by first|rfl|omega|(rw [wrap64 _ (by omega) (by omega)];omega)|(rw [wrap64 _ (by omega) (by omega)];split<;>omega)) (by omega) (by omega) ?_
  refine⟨by kernel_rfl,?_⟩
  refine Zh9 (n.natAbs / a) (by rw [wrap64 _ (by omega) (by omega),← hqa];split<;>omega) (by omega) ?_
  refine Zh9 (d / a) rfl (by omega) ?_
  refine Eq.trans (b:= .val (.agg [.d (.v (.bool (decide (n / (a:Int)< 0)))),.d (.v (.string (enc (n.natAbs / a)))),.d (.v (.string (enc (d / a))))])) ?_ rfl
  rw [Zpx n d (by omega),← g1,hsg]
  rfl
def denM (x:Int):Nat:=(([1,2,3,4,5,8]:List Nat)[(x % 6).toNat]?).getD 1
theorem ZeS (x:Int):1≤denM x∧denM x≤8:=by
 have h1:=Int.emod_nonneg x (show (6:Int)≠0 by decide)
 have h2:=Int.emod_lt_of_pos x (show (0:Int)< 6 by decide)
 have:x % 6=0∨x % 6=1∨x % 6=2∨x % 6=3∨x % 6=4∨x % 6=5:=by omega
 unfold denM
 rcases this with h|h|h|h|h|h<;>rw [h]<;>decide
theorem Zpo (x:Int):([stD 1,stD 2,stD 3,stD 4,stD 5,stD 8]:List (List D))[(x % 6).toNat]? =some (stD (denM x:Int)):=by
 have h1:=Int.emod_nonneg x (show (6:Int)≠0 by decide)
 have h2:=Int.emod_lt_of_pos x (show (0:Int)< 6 by decide)
 have:x % 6=0∨x % 6=1∨x % 6=2∨x % 6=3∨x % 6=4∨x % 6=5:=by omega
 unfold denM
 rcases this with h|h|h|h|h|h<;>rw [h]<;>rfl
def numM (x:Int):Int:=x.tdiv 6 % (16*(denM x:Int)+1) - 8*(denM x:Int)
theorem ZgU (x:Int):-(8*(denM x:Int))≤numM x∧numM x≤8*(denM x:Int):=by
 have h:=ZeS x
 have h1:=Int.emod_nonneg (x.tdiv 6) (show 16*(denM x:Int)+1≠0 by omega)
 have h2:=Int.emod_lt_of_pos (x.tdiv 6) (show 0< 16*(denM x:Int)+1 by omega)
 unfold numM;omega
def ratM (x:Int):Rat:=(numM x:Rat) / (denM x:Rat)
theorem Zgf (x:Int) (hx:-9223372036854775808≤x∧x≤9223372036854775807):Spec Tryz.prog Tab 7 [int x] (rat (cn (ratM x))):=by
 have hd:=ZeS x
 have hm:=ZgU x
 have ht0:(x.tdiv 6).natAbs=x.natAbs / 6:=by rw [Int.natAbs_tdiv];rfl
 refine Zd Tryz.func7 rfl rfl Tryz.ntmps7 rfl (by kernel_rfl) rfl rfl ?_
 refine use (ZaQ x 6 hx (by omega)) rfl ?_
 refine k_ix ((x % 6).toNat) [D.v (.int .i64 ((denM x:Int)))] (by first|rfl|omega|(rw [wrap64 _ (by omega) (by omega)];omega)|(rw [wrap64 _ (by omega) (by omega)];split<;>omega)) (Zpo x) rfl ?_
 refine Zn5 (x.tdiv 6) (by decide) (wrap64 _ (by omega) (by omega)) ?_
 have hw2:IntKind.i64.wrap ((IntKind.i64.wrap (16*(denM x:Int)))+1)=16*(denM x:Int)+1:=by rw [wrap64 (16*(denM x:Int)) (by omega) (by omega),wrap64 _ (by omega) (by omega)]
 have hm1:=Int.emod_nonneg (x.tdiv 6) (show 16*(denM x:Int)+1≠0 by omega)
 have hm2:=Int.emod_lt_of_pos (x.tdiv 6) (show 0< 16*(denM x:Int)+1 by omega)
 refine use (ZaQ (x.tdiv 6) (IntKind.i64.wrap ((IntKind.i64.wrap (16*(denM x:Int)))+1)) (by omega) (by omega)) rfl ?_
 have hwn:IntKind.i64.wrap ((x.tdiv 6 % (IntKind.i64.wrap ((IntKind.i64.wrap (16*(denM x:Int)))+1))) - (IntKind.i64.wrap (8*(denM x:Int))))=numM x:=by unfold numM;rw [hw2,wrap64 (8*(denM x:Int)) (by omega) (by omega),wrap64 _ (by omega) (by omega)]
 have hof:=Ze3 (numM x) (denM x) (by omega) (by omega)
 rw [show int (numM x)=int (IntKind.i64.wrap ((x.tdiv 6 % (IntKind.i64.wrap ((IntKind.i64.wrap (16*(denM x:Int)))+1))) - (IntKind.i64.wrap (8*(denM x:Int))))) from by rw [hwn]] at hof
 refine use hof rfl ?_
 refine Eq.trans (b:=rat (cn (ratM x))) ?_ rfl
 rfl
end
end Go.Proofs.YtiekmbmgpachpaaGreatDoor.eng
namespace Go.Proofs.YtiekmbmgpachpaaGreatDoor.eng
open Go.RowKit num mem seg q held ratA ratB ratC ratD ratE vars ratF prf natC natD natI sub32
section
variable {K : AV → Prop}
theorem ZiF (l:List Int) (n:Int) (hl:∀ x,x∈l→-9223372036854775808≤x∧x≤9223372036854775807) (hn:1≤n∧n≤1073741824):SpecV Tryz.prog Tab 80 [.val (.one (.ptr 1000 0)),int n] 85 [D.list (List.map stD l)] (int (nextV l n)) [D.list (List.map stD (nextL l n))]:=by
 cases l with
 |nil=>exact ZpI [] rfl n
 |cons x l=>
  have h:=ZpH x l (x :: l) rfl n (hl x List.mem_cons_self) hn
  rw [show nextV (x :: l) n=x % n from if_neg (by omega),show nextL (x :: l) n=l from if_neg (by omega)]
  exact h
def qtr (x:Int):Rat:=(x:Rat) / ((4:Nat):Rat)
theorem ZpG (x y:Int) (hx:-256< x∧x< 256) (hy:-256< y∧y< 256):Spec Tryz.prog Tab 81 [int x,int y] (pair (cn (qtr x)) (cn (qtr y))):=by
 refine Zd Tryz.func81 rfl rfl Tryz.ntmps81 rfl (by kernel_rfl) rfl rfl ?_
 refine use (Ze3 x 4 (by omega) (by decide)) rfl ?_
 refine use (Ze3 y 4 (by omega) (by decide)) rfl ?_
 refine Eq.trans (b:=pair (cn (qtr x)) (cn (qtr y))) ?_ rfl
 rfl
theorem Zbv {K:AV→Prop} {x y:Int} (a b:Int) (hx:x=a) (hy:y=b) (ha:-256< a∧a< 256) (hb:-256< b∧b< 256) (k:K (pair (cn (qtr a)) (cn (qtr b)))):Ask 81 [int x,int y] K:=by subst hx hy;exact use (ZpG x y ha hb) rfl k
def wM (l:List Int):Int:=1+nextV l 6
def hM (l:List Int):Int:=1+nextV (nextL l 6) 6
def l2M (l:List Int):List Int:=nextL (nextL l 6) 6
def l3M (l:List Int):List Int:=nextL (l2M l) 4
def cM (l:List Int):Int:=nextV (l2M l) 4
def vM (l:List Int):Int:=nextV (l3M l) (2*wM l+1) - wM l
def polyI (l:List Int):List (Int×Int):=
 if cM l=0 then [(-wM l,-hM l),(wM l,-hM l),(wM l,hM l),(-wM l,hM l)]
 else if cM l=1 then [(-wM l,-hM l),(wM l,-hM l),(vM l,hM l)]
 else if cM l=2 then [(-wM l - 1,-hM l - 1),(wM l,-hM l - 1),(wM l+1,-hM l),(wM l+1,hM l),(-wM l - 1,hM l)]
 else [(-wM l,0),(0,-hM l),(wM l,0),(0,hM l)]
def polyS (l:List Int):List Int:=if cM l=1 then nextL (l3M l) (2*wM l+1) else l3M l
def polyM (l:List Int):List (RV×RV):=(polyI l).map fun p=>(cn (qtr p.1),cn (qtr p.2))
theorem Zmj (l:List Int):1≤wM l∧wM l≤6:=by have:=ZcG (l:=l) (n:=6) (by decide);unfold wM;omega
theorem Zpd (l:List Int):1≤hM l∧hM l≤6:=by have:=ZcG (l:=nextL l 6) (n:=6) (by decide);unfold hM;omega
theorem Zox (l:List Int):-wM l≤vM l∧vM l≤wM l:=by have h:=Zmj l;have:=ZcG (l:=l3M l) (n:=2*wM l+1) (by omega);unfold vM;omega
set_option maxHeartbeats 2000000 in
theorem Zqb (l:List Int) (hl:∀ x,x∈l→-9223372036854775808≤x∧x≤9223372036854775807):SpecV Tryz.prog Tab 38 [.val (.one (.ptr 1000 0))] 85 [D.list (List.map stD l)] (.val (.one (.d (.list (List.map rdv (polyM l)))))) [D.list (List.map stD (polyS l))]:=by
 have hwb:=Zmj l
 have hhb:=Zpd l
 have hvb:=Zox l
 have hw7:IntKind.i64.wrap (1+nextV l 6)=wM l:=by unfold wM at*;exact wrap64 _ (by omega) (by omega)
 have hw10:IntKind.i64.wrap (1+nextV (nextL l 6) 6)=hM l:=by unfold hM at*;exact wrap64 _ (by omega) (by omega)
 have hn7:IntKind.i64.wrap (0 - (IntKind.i64.wrap (1+nextV l 6)))=-wM l:=by rw [hw7,wrap64 _ (by omega) (by omega)];omega
 have hn10:IntKind.i64.wrap (0 - (IntKind.i64.wrap (1+nextV (nextL l 6) 6)))=-hM l:=by rw [hw10,wrap64 _ (by omega) (by omega)];omega
 have hp7:IntKind.i64.wrap (IntKind.i64.wrap (1+nextV l 6)+1)=wM l+1:=by rw [hw7,wrap64 _ (by omega) (by omega)]
 have hm7:IntKind.i64.wrap (IntKind.i64.wrap (0 - (IntKind.i64.wrap (1+nextV l 6))) - 1)=-wM l - 1:=by rw [hn7,wrap64 _ (by omega) (by omega)]
 have hm10:IntKind.i64.wrap (IntKind.i64.wrap (0 - (IntKind.i64.wrap (1+nextV (nextL l 6) 6))) - 1)=-hM l - 1:=by rw [hn10,wrap64 _ (by omega) (by omega)]
 refine fn_V 0 [800006,800009,800012,800047] Tryz.func38 rfl rfl Tryz.ntmps38 rfl (by kernel_rfl) rfl rfl rfl ?_
 refine⟨int (nextV l 6), [D.list (List.map stD (nextL l 6))],⟨⟨rfl,rfl⟩,ZiF l 6 hl (by omega)⟩,?_⟩
 refine⟨int (nextV (nextL l 6) 6), [D.list (List.map stD (nextL (nextL l 6) 6))],⟨⟨rfl,rfl⟩,ZiF (nextL l 6) 6 (fun x h=>hl x (ZaJ h)) (by omega)⟩,?_⟩
 refine⟨int (nextV (nextL (nextL l 6) 6) 4), [D.list (List.map stD (nextL (nextL (nextL l 6) 6) 4))],⟨⟨rfl,rfl⟩,ZiF (nextL (nextL l 6) 6) 4 (fun x h=>hl x (ZaJ (ZaJ h))) (by omega)⟩,?_⟩
 refine⟨fun e1=> ?_,fun e1=> ?_⟩
 ·have f13:nextV (nextL (nextL l 6) 6) 4=0:=ZaN e1
  have c13:cM l=0:=f13
  refine Zbv (-wM l) (-hM l) (by first|rfl|exact hw7|exact hw10|exact hn7|exact hn10|exact hp7|exact hm7|exact hm10|exact hv) (by first|rfl|exact hw7|exact hw10|exact hn7|exact hn10|exact hp7|exact hm7|exact hm10|exact hv) (by omega) (by omega) ?_
  refine Zbv (wM l) (-hM l) (by first|rfl|exact hw7|exact hw10|exact hn7|exact hn10|exact hp7|exact hm7|exact hm10|exact hv) (by first|rfl|exact hw7|exact hw10|exact hn7|exact hn10|exact hp7|exact hm7|exact hm10|exact hv) (by omega) (by omega) ?_
  refine Zbv (wM l) (hM l) (by first|rfl|exact hw7|exact hw10|exact hn7|exact hn10|exact hp7|exact hm7|exact hm10|exact hv) (by first|rfl|exact hw7|exact hw10|exact hn7|exact hn10|exact hp7|exact hm7|exact hm10|exact hv) (by omega) (by omega) ?_
  refine Zbv (-wM l) (hM l) (by first|rfl|exact hw7|exact hw10|exact hn7|exact hn10|exact hp7|exact hm7|exact hm10|exact hv) (by first|rfl|exact hw7|exact hw10|exact hn7|exact hn10|exact hp7|exact hm7|exact hm10|exact hv) (by omega) (by omega) ?_
  refine⟨Eq.trans (b:= .val (.one (.d (.list ([[D.v (.bool (cn (qtr (-wM l))).s),D.v (.string (cn (qtr (-wM l))).a),D.v (.string (cn (qtr (-wM l))).d),D.v (.bool (cn (qtr (-hM l))).s),D.v (.string (cn (qtr (-hM l))).a),D.v (.string (cn (qtr (-hM l))).d)], [D.v (.bool (cn (qtr (wM l))).s),D.v (.string (cn (qtr (wM l))).a),D.v (.string (cn (qtr (wM l))).d),D.v (.bool (cn (qtr (-hM l))).s),D.v (.string (cn (qtr (-hM l))).a),D.v (.string (cn (qtr (-hM l))).d)], [D.v (.bool (cn (qtr (wM l))).s),D.v (.string (cn (qtr (wM l))).a),D.v (.string (cn (qtr (wM l))).d),D.v (.bool (cn (qtr (hM l))).s),D.v (.string (cn (qtr (hM l))).a),D.v (.string (cn (qtr (hM l))).d)], [D.v (.bool (cn (qtr (-wM l))).s),D.v (.string (cn (qtr (-wM l))).a),D.v (.string (cn (qtr (-wM l))).d),D.v (.bool (cn (qtr (hM l))).s),D.v (.string (cn (qtr (hM l))).a),D.v (.string (cn (qtr (hM l))).d)]]))))) ?_ rfl,rfl,?_⟩
  unfold polyM polyI
  rw [if_pos c13]
  rfl
  rw [show polyS l=l3M l from if_neg (fun h=>by omega)]
  rfl
 ·have f13:¬ (nextV (nextL (nextL l 6) 6) 4=0):=ZaO e1
  have c13:¬ cM l=0:=f13
  refine⟨fun e2=> ?_,fun e2=> ?_⟩
  ·have f32:nextV (nextL (nextL l 6) 6) 4=1:=ZaN e2
   have c32:cM l=1:=f32
   refine Zbv (-wM l) (-hM l) (by first|rfl|exact hw7|exact hw10|exact hn7|exact hn10|exact hp7|exact hm7|exact hm10|exact hv) (by first|rfl|exact hw7|exact hw10|exact hn7|exact hn10|exact hp7|exact hm7|exact hm10|exact hv) (by omega) (by omega) ?_
   refine Zbv (wM l) (-hM l) (by first|rfl|exact hw7|exact hw10|exact hn7|exact hn10|exact hp7|exact hm7|exact hm10|exact hv) (by first|rfl|exact hw7|exact hw10|exact hn7|exact hn10|exact hp7|exact hm7|exact hm10|exact hv) (by omega) (by omega) ?_
   have hw47:IntKind.i64.wrap ((IntKind.i64.wrap (2*(IntKind.i64.wrap (1+(nextV l 6)))))+1)=2*wM l+1:=by rw [hw7,wrap64 (2*wM l) (by omega) (by omega),wrap64 _ (by omega) (by omega)]
   have hnx:=ZiF (l3M l) (2*wM l+1) (fun x h=>hl x (ZaJ (ZaJ (ZaJ h)))) (by omega)
   rw [← hw47] at hnx
   have hbd:=ZcG (l:=l3M l) (n:=2*wM l+1) (by omega)
   have hv:IntKind.i64.wrap (nextV (l3M l) (IntKind.i64.wrap ((IntKind.i64.wrap (2*(IntKind.i64.wrap (1+(nextV l 6)))))+1)) - (IntKind.i64.wrap (1+nextV l 6)))=vM l:=by rw [hw47,hw7];exact wrap64 _ (by omega) (by omega)
   refine⟨int (nextV (l3M l) (IntKind.i64.wrap ((IntKind.i64.wrap (2*(IntKind.i64.wrap (1+(nextV l 6)))))+1))), [D.list (List.map stD (nextL (l3M l) (IntKind.i64.wrap ((IntKind.i64.wrap (2*(IntKind.i64.wrap (1+(nextV l 6)))))+1))))],⟨⟨rfl,rfl⟩,hnx⟩,?_⟩
   refine Zbv (vM l) (hM l) (by first|rfl|exact hw7|exact hw10|exact hn7|exact hn10|exact hp7|exact hm7|exact hm10|exact hv) (by first|rfl|exact hw7|exact hw10|exact hn7|exact hn10|exact hp7|exact hm7|exact hm10|exact hv) (by omega) (by omega) ?_
   refine⟨Eq.trans (b:= .val (.one (.d (.list ([[D.v (.bool (cn (qtr (-wM l))).s),D.v (.string (cn (qtr (-wM l))).a),D.v (.string (cn (qtr (-wM l))).d),D.v (.bool (cn (qtr (-hM l))).s),D.v (.string (cn (qtr (-hM l))).a),D.v (.string (cn (qtr (-hM l))).d)], [D.v (.bool (cn (qtr (wM l))).s),D.v (.string (cn (qtr (wM l))).a),D.v (.string (cn (qtr (wM l))).d),D.v (.bool (cn (qtr (-hM l))).s),D.v (.string (cn (qtr (-hM l))).a),D.v (.string (cn (qtr (-hM l))).d)], [D.v (.bool (cn (qtr (vM l))).s),D.v (.string (cn (qtr (vM l))).a),D.v (.string (cn (qtr (vM l))).d),D.v (.bool (cn (qtr (hM l))).s),D.v (.string (cn (qtr (hM l))).a),D.v (.string (cn (qtr (hM l))).d)]]))))) ?_ rfl,rfl,?_⟩
   unfold polyM polyI
   rw [if_neg c13,if_pos c32]
   rfl
   rw [show polyS l=nextL (l3M l) (2*wM l+1) from if_pos c32,← hw47]
   rfl
  ·have f32:¬ (nextV (nextL (nextL l 6) 6) 4=1):=ZaO e2
   have c32:¬ cM l=1:=f32
   refine⟨fun e3=> ?_,fun e3=> ?_⟩
   ·have f53:nextV (nextL (nextL l 6) 6) 4=2:=ZaN e3
    have c53:cM l=2:=f53
    refine Zbv (-wM l - 1) (-hM l - 1) (by first|rfl|exact hw7|exact hw10|exact hn7|exact hn10|exact hp7|exact hm7|exact hm10|exact hv) (by first|rfl|exact hw7|exact hw10|exact hn7|exact hn10|exact hp7|exact hm7|exact hm10|exact hv) (by omega) (by omega) ?_
    refine Zbv (wM l) (-hM l - 1) (by first|rfl|exact hw7|exact hw10|exact hn7|exact hn10|exact hp7|exact hm7|exact hm10|exact hv) (by first|rfl|exact hw7|exact hw10|exact hn7|exact hn10|exact hp7|exact hm7|exact hm10|exact hv) (by omega) (by omega) ?_
    refine Zbv (wM l+1) (-hM l) (by first|rfl|exact hw7|exact hw10|exact hn7|exact hn10|exact hp7|exact hm7|exact hm10|exact hv) (by first|rfl|exact hw7|exact hw10|exact hn7|exact hn10|exact hp7|exact hm7|exact hm10|exact hv) (by omega) (by omega) ?_
    refine Zbv (wM l+1) (hM l) (by first|rfl|exact hw7|exact hw10|exact hn7|exact hn10|exact hp7|exact hm7|exact hm10|exact hv) (by first|rfl|exact hw7|exact hw10|exact hn7|exact hn10|exact hp7|exact hm7|exact hm10|exact hv) (by omega) (by omega) ?_
    refine Zbv (-wM l - 1) (hM l) (by first|rfl|exact hw7|exact hw10|exact hn7|exact hn10|exact hp7|exact hm7|exact hm10|exact hv) (by first|rfl|exact hw7|exact hw10|exact hn7|exact hn10|exact hp7|exact hm7|exact hm10|exact hv) (by omega) (by omega) ?_
    refine⟨Eq.trans (b:= .val (.one (.d (.list ([[D.v (.bool (cn (qtr (-wM l - 1))).s),D.v (.string (cn (qtr (-wM l - 1))).a),D.v (.string (cn (qtr (-wM l - 1))).d),D.v (.bool (cn (qtr (-hM l - 1))).s),D.v (.string (cn (qtr (-hM l - 1))).a),D.v (.string (cn (qtr (-hM l - 1))).d)], [D.v (.bool (cn (qtr (wM l))).s),D.v (.string (cn (qtr (wM l))).a),D.v (.string (cn (qtr (wM l))).d),D.v (.bool (cn (qtr (-hM l - 1))).s),D.v (.string (cn (qtr (-hM l - 1))).a),D.v (.string (cn (qtr (-hM l - 1))).d)], [D.v (.bool (cn (qtr (wM l+1))).s),D.v (.string (cn (qtr (wM l+1))).a),D.v (.string (cn (qtr (wM l+1))).d),D.v (.bool (cn (qtr (-hM l))).s),D.v (.string (cn (qtr (-hM l))).a),D.v (.string (cn (qtr (-hM l))).d)], [D.v (.bool (cn (qtr (wM l+1))).s),D.v (.string (cn (qtr (wM l+1))).a),D.v (.string (cn (qtr (wM l+1))).d),D.v (.bool (cn (qtr (hM l))).s),D.v (.string (cn (qtr (hM l))).a),D.v (.string (cn (qtr (hM l))).d)], [D.v (.bool (cn (qtr (-wM l - 1))).s),D.v (.string (cn (qtr (-wM l - 1))).a),D.v (.string (cn (qtr (-wM l - 1))).d),D.v (.bool (cn (qtr (hM l))).s),D.v (.string (cn (qtr (hM l))).a),D.v (.string (cn (qtr (hM l))).d)]]))))) ?_ rfl,rfl,?_⟩
    unfold polyM polyI
    rw [if_neg c13,if_neg c32,if_pos c53]
    rfl
    rw [show polyS l=l3M l from if_neg c32]
    rfl
   ·have f53:¬ (nextV (nextL (nextL l 6) 6) 4=2):=ZaO e3
    have c53:¬ cM l=2:=f53
    refine Zbv (-wM l) (0) (by first|rfl|exact hw7|exact hw10|exact hn7|exact hn10|exact hp7|exact hm7|exact hm10|exact hv) (by first|rfl|exact hw7|exact hw10|exact hn7|exact hn10|exact hp7|exact hm7|exact hm10|exact hv) (by omega) (by omega) ?_
    refine Zbv (0) (-hM l) (by first|rfl|exact hw7|exact hw10|exact hn7|exact hn10|exact hp7|exact hm7|exact hm10|exact hv) (by first|rfl|exact hw7|exact hw10|exact hn7|exact hn10|exact hp7|exact hm7|exact hm10|exact hv) (by omega) (by omega) ?_
    refine Zbv (wM l) (0) (by first|rfl|exact hw7|exact hw10|exact hn7|exact hn10|exact hp7|exact hm7|exact hm10|exact hv) (by first|rfl|exact hw7|exact hw10|exact hn7|exact hn10|exact hp7|exact hm7|exact hm10|exact hv) (by omega) (by omega) ?_
    refine Zbv (0) (hM l) (by first|rfl|exact hw7|exact hw10|exact hn7|exact hn10|exact hp7|exact hm7|exact hm10|exact hv) (by first|rfl|exact hw7|exact hw10|exact hn7|exact hn10|exact hp7|exact hm7|exact hm10|exact hv) (by omega) (by omega) ?_
    refine⟨Eq.trans (b:= .val (.one (.d (.list ([[D.v (.bool (cn (qtr (-wM l))).s),D.v (.string (cn (qtr (-wM l))).a),D.v (.string (cn (qtr (-wM l))).d),D.v (.bool (cn (qtr (0))).s),D.v (.string (cn (qtr (0))).a),D.v (.string (cn (qtr (0))).d)], [D.v (.bool (cn (qtr (0))).s),D.v (.string (cn (qtr (0))).a),D.v (.string (cn (qtr (0))).d),D.v (.bool (cn (qtr (-hM l))).s),D.v (.string (cn (qtr (-hM l))).a),D.v (.string (cn (qtr (-hM l))).d)], [D.v (.bool (cn (qtr (wM l))).s),D.v (.string (cn (qtr (wM l))).a),D.v (.string (cn (qtr (wM l))).d),D.v (.bool (cn (qtr (0))).s),D.v (.string (cn (qtr (0))).a),D.v (.string (cn (qtr (0))).d)], [D.v (.bool (cn (qtr (0))).s),D.v (.string (cn (qtr (0))).a),D.v (.string (cn (qtr (0))).d),D.v (.bool (cn (qtr (hM l))).s),D.v (.string (cn (qtr (hM l))).a),D.v (.string (cn (qtr (hM l))).d)]]))))) ?_ rfl,rfl,?_⟩
    unfold polyM polyI
    rw [if_neg c13,if_neg c32,if_neg c53]
    rfl
    rw [show polyS l=l3M l from if_neg c32]
    rfl
theorem Zgg (l:List Int) (hl:∀ x,x∈l→-9223372036854775808≤x∧x≤9223372036854775807):Spec Tryz.prog Tab 6 [.val (.one (.d (.list (List.map stD l))))] (.val (.one (.d (.list (List.map rdv (polyM l)))))):=by
 refine Zcw [800006] Tryz.func6 rfl rfl Tryz.ntmps6 rfl (by kernel_rfl) rfl rfl ?_
 refine⟨.val (.one (.d (.list (List.map rdv (polyM l))))), [D.list (List.map stD (polyS l))],⟨⟨rfl,rfl⟩,Zqb l hl⟩,?_⟩
 refine Eq.trans (b:= .val (.one (.d (.list (List.map rdv (polyM l)))))) ?_ rfl
 rfl
end
end Go.Proofs.YtiekmbmgpachpaaGreatDoor.eng
namespace Go.Proofs.YtiekmbmgpachpaaGreatDoor.eng
open Go.RowKit num mem seg q held ratA ratB ratC ratD ratE vars ratF trq
def oriI (a b c:Int×Int):Int:=(b.1 - a.1)*(c.2 - a.2) - (b.2 - a.2)*(c.1 - a.1)
theorem Zex (a b:Int):qtr a - qtr b=qtr (a - b):=by
 unfold qtr
 rw [Rat.intCast_sub,Rat.div_def,Rat.div_def,Rat.div_def];grind
theorem ZkC (a b:Int):qtr a*qtr b=((a*b:Int):Rat)*(((1:Int):Rat) / ((16:Int):Rat)):=by
 unfold qtr
 have h:(((4:Nat):Rat))⁻¹*(((4:Nat):Rat))⁻¹=((1:Int):Rat) / ((16:Int):Rat):=by decide+kernel
 rw [Rat.intCast_mul,Rat.div_def,Rat.div_def,← h];grind
theorem ZoL {a b c:Int×Int} (h:0< oriI a b c):0< poly.ori (qtr a.1,qtr a.2) (qtr b.1,qtr b.2) (qtr c.1,qtr c.2):=by
 have e:poly.ori (qtr a.1,qtr a.2) (qtr b.1,qtr b.2) (qtr c.1,qtr c.2)=((oriI a b c:Int):Rat)*(((1:Int):Rat) / ((16:Int):Rat)):=by
  unfold poly.ori oriI
  simp only
  rw [Zex,Zex,Zex,Zex,ZkC,ZkC,Rat.intCast_sub];grind
 rw [e]
 exact Rat.mul_pos (Rat.intCast_pos.2 h) (by decide+kernel)
def EdgesI (P:List (Int×Int)):Prop:=∀ i k,i< P.length→2≤k→k< P.length→0< oriI ((P[i]?).getD (0,0)) ((P[(i+1) % P.length]?).getD (0,0)) ((P[(i+k) % P.length]?).getD (0,0))
theorem Zc0 (l:List Int) {i:Nat} (hi:i< (polyI l).length):pts (polyM l) i=(qtr ((polyI l)[i]?.getD (0,0)).1,qtr ((polyI l)[i]?.getD (0,0)).2):=by
 unfold pts polyM
 rw [List.getElem?_map,List.getElem?_eq_getElem hi]
 simp only [Option.map_some,Option.getD_some,cn_q]
theorem Zfx (l:List Int):3≤(polyI l).length∧(polyI l).length≤5:=by
 unfold polyI
 (repeat' split)<;>simp
theorem Zfw (l:List Int):(polyM l).length=(polyI l).length:=List.length_map ..
theorem ZgQ (l:List Int):EdgesI (polyI l):=by
 have hw:=Zmj l
 have hh:=Zpd l
 have hv:=Zox l
 unfold polyI
 generalize wM l=w at*
 generalize hM l=h at*
 generalize vM l=v at*
 have cw:w=1∨w=2∨w=3∨w=4∨w=5∨w=6:=by omega
 have ch:h=1∨h=2∨h=3∨h=4∨h=5∨h=6:=by omega
 (repeat' split)
 all_goals
  intro i k hi h2 hk
  simp only [List.length_cons,List.length_nil] at hi hk ⊢
  have ci:i=0∨i=1∨i=2∨i=3∨i=4:=by omega
  have ck:k=2∨k=3∨k=4:=by omega
  rcases ci with rfl|rfl|rfl|rfl|rfl<;>rcases ck with rfl|rfl|rfl<;>first
   |(exfalso;omega)
   |(simp [oriI]
     rcases ch with rfl|rfl|rfl|rfl|rfl|rfl<;>omega)
theorem Zbm (l:List Int):convE 64 (polyM l)=0:=by
 have hn:=Zfx l
 have he:=ZgQ l
 rw [Z6,Zfw]
 refine⟨by omega,by omega,fun i k hi h2 hk=> ?_⟩
 rw [Zc0 l hi,Zc0 l (Nat.mod_lt _ (by omega)),Zc0 l (Nat.mod_lt _ (by omega))]
 exact ZoL (he i k hi h2 hk)
theorem ZmU (l:List Int):∀ p,p∈polyI l→(-8≤p.1∧p.1≤8)∧-8≤p.2∧p.2≤8:=by
 have hw:=Zmj l
 have hh:=Zpd l
 have hv:=Zox l
 unfold polyI
 generalize wM l=w at*
 generalize hM l=h at*
 generalize vM l=v at*
 intro p hp
 (repeat' split at hp)<;>simp only [List.mem_cons,List.not_mem_nil,or_false] at hp
 ·rcases hp with rfl|rfl|rfl|rfl<;>simp only<;>omega
 ·rcases hp with rfl|rfl|rfl<;>simp only<;>omega
 ·rcases hp with rfl|rfl|rfl|rfl|rfl<;>simp only<;>omega
 ·rcases hp with rfl|rfl|rfl|rfl<;>simp only<;>omega
theorem Zct {a:Int} (h:-8≤a∧a≤8):(-2≤qtr a∧qtr a≤2)∧qs (qtr a)≤100:=by
 have e:qtr a=(a:Rat)*(1 / 4):=by unfold qtr;rw [Rat.div_def,show (((4:Nat):Rat))⁻¹=1 / 4 from by decide+kernel]
 have h1:((-8:Int):Rat)≤(a:Rat):=Rat.intCast_le_intCast.2 h.1
 have h2:(a:Rat)≤((8:Int):Rat):=Rat.intCast_le_intCast.2 h.2
 have e1:((-8:Int):Rat)=-8:=by decide+kernel
 have e2:((8:Int):Rat)=8:=rfl
 have k1:=Zat (n:=a) (by omega) (by omega)
 have k2:qs ((4:Nat):Rat)≤8:=by decide+kernel
 have k3:=ZcZ (a:Rat) ((4:Nat):Rat)
 refine⟨?_,by unfold qtr;omega⟩
 rw [e]
 rw [e1] at h1
 rw [e2] at h2
 constructor<;>grind
theorem Zc3 {l:List Int} {p:RV×RV} (h:p∈polyM l):∃ a b:Int,(-8≤a∧a≤8)∧(-8≤b∧b≤8)∧p=(cn (qtr a),cn (qtr b)):=by
 obtain⟨c,hc,rfl⟩:=List.mem_map.1 h
 obtain⟨h1,h2⟩:=ZmU l c hc
 exact⟨c.1,c.2,h1,h2,rfl⟩
theorem Zce (l:List Int):∀ p,p∈polyM l→p.1.z≤1048576∧p.2.z≤1048576:=by
 intro p hp
 obtain⟨a,b,ha,hb,rfl⟩:=Zc3 hp
 have:=(Zct ha).2;have:=(Zct hb).2
 exact⟨by show (cn _).z≤_;rw [cn_z];omega,by show (cn _).z≤_;rw [cn_z];omega⟩
end Go.Proofs.YtiekmbmgpachpaaGreatDoor.eng
namespace Go.Proofs.YtiekmbmgpachpaaGreatDoor.eng
open Go.RowKit num mem seg q held ratA ratB ratC ratD ratE vars ratF prf natC natD natI sub32 trq
section
variable {K : AV → Prop}
end
end Go.Proofs.YtiekmbmgpachpaaGreatDoor.eng
namespace Go.Proofs.YtiekmbmgpachpaaGreatDoor.eng
open Go.RowKit num mem seg q held ratA ratB ratC ratD ratE vars ratF prf natC natD natI sub32 trq
section
variable {K : AV → Prop}
theorem bgR:∃ R:List (RV×RV),R.length=2∧Spec Tryz.prog Tab 36 [.val (.one (.d (.list (List.map rdc ([-1,0,1]:List Rat)))))] (.tup [.one (.d (.list (List.map rdv R))),.one (.d (.v (.int .i64 (0))))]):=⟨RR 2,rfl,ZgG⟩
theorem bgA:areaQ (cvl (sqL 0 0 2))=((4:Int):Rat):=by rw [sq2.1];rfl
theorem bgF:frE 4607182418800017408=0∧frA 4607182418800017408=cn (frLo 4607182418800017408)∧frB 4607182418800017408=cn (frHi 4607182418800017408):=ZlB (by decide)
theorem bgH:(frLo 4607182418800017408≤1∧1≤frHi 4607182418800017408)∧frHi 4607182418800017408< 2∧qs (frLo 4607182418800017408)≤1000∧qs (frHi 4607182418800017408)≤1000:=by decide+kernel
theorem ZcM (x y:Int) (hx:-100≤x∧x≤100) (hy:-100≤y∧y≤100):Spec Tryz.prog Tab 34 [int x,int y] (pair (cn (x:Rat)) (cn (y:Rat))):=by
 refine Zd Tryz.func34 rfl rfl Tryz.ntmps34 rfl (by kernel_rfl) rfl rfl ?_
 refine k_of (x) (by omega) (by omega) fun q6 h6 z6=> ?_
 simp only [cn_z] at z6
 refine k_of (y) (by omega) (by omega) fun q8 h8 z8=> ?_
 simp only [cn_z] at z8
 refine Eq.trans (b:=pair (cn q6) (cn q8)) ?_ rfl
 subst_vars;rfl
set_option maxHeartbeats 4000000 in
theorem ZfW  :Spec Tryz.prog Tab 5 [] (bool true):=by
 refine Zd Tryz.func5 rfl rfl Tryz.ntmps5 rfl (by kernel_rfl) rfl rfl ?_
 refine use (ZcM 0 0 (by decide) (by decide)) rfl ?_
 refine use (ZcM 2 0 (by decide) (by decide)) rfl ?_
 refine use (ZcM 2 2 (by decide) (by decide)) rfl ?_
 refine use (ZcM 0 2 (by decide) (by decide)) rfl ?_
 refine ZqM 4607182418800017408 rfl (by decide) fun x19 y19 n19 hn19 hx19 hy19=> ?_
 obtain⟨bf1,bf2,bf3⟩:=bgF
 obtain⟨⟨bh1,bh2⟩,bh3,bh4,bh5⟩:=bgH
 obtain rfl:x19=cn (frLo 4607182418800017408):=hx19.trans bf2
 obtain rfl:y19=cn (frHi 4607182418800017408):=hy19.trans bf3
 obtain rfl:n19=0:=hn19.trans bf1
 refine k_of (-1) (by omega) (by omega) fun q23 h23 z23=> ?_
 simp only [cn_z] at z23
 refine k_of (0) (by omega) (by omega) fun q24 h24 z24=> ?_
 simp only [cn_z] at z24
 refine k_of (1) (by omega) (by omega) fun q25 h25 z25=> ?_
 simp only [cn_z] at z25
 obtain rfl:q23=(-1:Rat):=h23.trans (by decide+kernel)
 obtain rfl:q24=(0:Rat):=h24.trans (by decide+kernel)
 obtain rfl:q25=(1:Rat):=h25.trans (by decide+kernel)
 obtain⟨R2,hR2,hR3⟩:=bgR
 refine use hR3 rfl ?_
 have hR4:(List.map rdv R2).length=2:=by rw [List.length_map,hR2]
 refine Zde (l:=cvl (sqL 0 0 2)) (Zq4 (by decide+kernel)) (by decide) fun p q r u hp hq hr hu=> ?_
 have ep:p=(0:Rat):=hp.trans (by simp only [bx1,cvl,sqL,List.map,xsQ,cn_q];decide+kernel)
 have eq:q=(0:Rat):=hq.trans (by simp only [bx2,cvl,sqL,List.map,ysQ,cn_q];decide+kernel)
 have er:r=(2:Rat):=hr.trans (by simp only [bx3,cvl,sqL,List.map,xsQ,cn_q];decide+kernel)
 have eu:u=(2:Rat):=hu.trans (by simp only [bx4,cvl,sqL,List.map,ysQ,cn_q];decide+kernel)
 subst ep
 subst eq
 subst er
 subst eu
 have hgr:=Zie (cn 0) (cn 0) (cn 2) (cn 2) (by rw [cn_z];exact(by decide+kernel)) (by rw [cn_z];exact(by decide+kernel)) (by rw [cn_z];exact(by decide+kernel)) (by rw [cn_z];exact(by decide+kernel))
 have hgn:gridR (cn 0) (cn 0) (cn 2) (cn 2)=((cellsL (ivl (c0 0) (c1 2)) (ivl (c0 0) (c1 2))),0):=by
  have h:=Zjs (x:=cn 0) (y:=cn 0) (z:=cn 2) (t:=cn 2) (by simp only [cn_q];decide+kernel) (by simp only [cn_q];decide+kernel) (by simp only [cn_q];decide+kernel) (by simp only [cn_q];decide+kernel) (by simp only [cn_q];decide+kernel) (by simp only [cn_q];decide+kernel)
  simpa only [cn_q] using h
 rw [hgn] at hgr
 have hcl:(CL (cellsL (ivl (c0 0) (c1 2)) (ivl (c0 0) (c1 2)))).length=16:=by unfold CL;rw [List.length_map];decide+kernel
 obtain⟨G2,hG2⟩:∃ G,G=(cellsL (ivl (c0 0) (c1 2)) (ivl (c0 0) (c1 2))):=⟨_,rfl⟩
 rw [← hG2] at hgr hcl
 refine use hgr rfl ?_
 refine k_of (1) (by omega) (by omega) fun q40 h40 z40=> ?_
 simp only [cn_z] at z40
 refine Zn4 (x:=cn (frLo 4607182418800017408)) (y:=cn (frHi 4607182418800017408)) (z:=cn q40) (by simp only [cn_z];omega) (by simp only [cn_z];omega) (by simp only [cn_z];omega) (fun b41 hk_41_1=> ?_)
 try simp only [cn_q] at hk_41_1
 refine fork (fun e1=> ?_) (fun e1=> ?_)
 ·have f43:hasQ (slo (cn (frLo 4607182418800017408)) (cn (frHi 4607182418800017408))) (shi (cn (frLo 4607182418800017408)) (cn (frHi 4607182418800017408))) q40=true:=hk_41_1.symm.trans e1
  refine k_of (2) (by omega) (by omega) fun q45 h45 z45=> ?_
  simp only [cn_z] at z45
  refine Zn4 (x:=cn (frLo 4607182418800017408)) (y:=cn (frHi 4607182418800017408)) (z:=cn q45) (by simp only [cn_z];omega) (by simp only [cn_z];omega) (by simp only [cn_z];omega) (fun b46 hk_46_1=> ?_)
  try simp only [cn_q] at hk_46_1
  refine fork (fun e2=> ?_) (fun e2=> ?_)
  ·have f49:¬ (hasQ (slo (cn (frLo 4607182418800017408)) (cn (frHi 4607182418800017408))) (shi (cn (frLo 4607182418800017408)) (cn (frHi 4607182418800017408))) q45=true):=fun hh=>absurd (hh.symm.trans (hk_46_1.symm.trans (ZoQ e2))) (by decide)
   refine fork (fun e3=> ?_) (fun e3=> ?_)
   ·have f58:((List.map rdv R2).length:Int)=2:=ZaN e3
    refine fork (fun e4=> ?_) (fun e4=> ?_)
    ·have f67:((CL G2).length:Int)=16:=ZaN e4
     refine Zo5 (l:=cvl (sqL 0 0 2)) (Zq4 (by decide+kernel)) (by decide) fun q69 hq69=> ?_
     refine k_of (4) (by omega) (by omega) fun q70 h70 z70=> ?_
     simp only [cn_z] at z70
     refine Zg1 (by rw [hq69,bgA,h70]) ?_
     refine⟨by kernel_rfl,?_⟩
     refine Eq.trans (b:=bool true) ?_ rfl
     rfl
    ·have f67:¬ (((CL G2).length:Int)=16):=ZaO e4
     exfalso
     omega
   ·have f58:¬ (((List.map rdv R2).length:Int)=2):=ZaO e3
    exfalso
    omega
  ·have f49:¬ (¬ (hasQ (slo (cn (frLo 4607182418800017408)) (cn (frHi 4607182418800017408))) (shi (cn (frLo 4607182418800017408)) (cn (frHi 4607182418800017408))) q45=true)):=fun hh=>hh (hk_46_1.symm.trans (ZoR e2))
   exfalso
   exact f49 (fun h=>by rw [ZnL (Rat.le_trans bh1 bh2),ZnM (Rat.le_trans bh1 bh2),h45] at h;have:=(Zid.1 h).2;exact absurd bh3 (Rat.not_lt.2 this))
 ·have f43:¬ (hasQ (slo (cn (frLo 4607182418800017408)) (cn (frHi 4607182418800017408))) (shi (cn (frLo 4607182418800017408)) (cn (frHi 4607182418800017408))) q40=true):=fun hh=>absurd (hh.symm.trans (hk_41_1.symm.trans e1)) (by decide)
  exfalso
  exact f43 (by rw [ZnL (Rat.le_trans bh1 bh2),ZnM (Rat.le_trans bh1 bh2),h40];exact Zid.2 ⟨bh1,bh2⟩)
end
end Go.Proofs.YtiekmbmgpachpaaGreatDoor.eng
namespace Go.Proofs.YtiekmbmgpachpaaGreatDoor.eng
open Go.RowKit num mem seg q held ratA ratB ratC ratD ratE vars ratF prf
section
variable {K : AV → Prop}
abbrev KC:=Int×Int
def kcD (c:KC):List D:= [D.v (.int .i64 c.1),D.v (.int .i64 c.2)]
def kcL (l:List KC):List D:= [D.list (List.map kcD l)]
def kcV (c:KC):List Value:= [.int .i64 c.1,.int .i64 c.2]
def cmpZ (x y:Int):Int:=if x< y then -1 else if y< x then 1 else 0
theorem Zl0 {x y:Int}:cmpZ x y< 0↔x< y:=by unfold cmpZ;split<;>(try split)<;>omega
theorem Zds {x y:Int}:cmpZ x y=0↔x=y:=by unfold cmpZ;split<;>(try split)<;>omega
def ordZ (a b:KC):Int:=if cmpZ a.2 b.2=0 then cmpZ a.1 b.1 else cmpZ a.2 b.2
def kcLt (a b:KC):Prop:=a.2< b.2∨(a.2=b.2∧a.1< b.1)
theorem Zac {a b:KC}:ordZ a b< 0↔kcLt a b:=by
 unfold ordZ kcLt
 split
 ·rename_i h;rw [Zds] at h;rw [Zl0];omega
 ·rename_i h;rw [Zds] at h;rw [Zl0];omega
theorem ZkP {a b:KC}:ordZ a b=0↔a=b:=by
 unfold ordZ
 split
 ·rename_i h;rw [Zds] at h;rw [Zds];exact⟨fun e=>Prod.ext e h,fun e=>by rw [e]⟩
 ·rename_i h;exact⟨fun e=>absurd e h,fun e=>absurd (Zds.2 (congrArg Prod.snd e)) h⟩
theorem Zbq {a b c:KC} (h1:kcLt a b) (h2:kcLt b c):kcLt a c:=by unfold kcLt at*;omega
theorem Zjj (a b:KC):kcLt a b∨a=b∨kcLt b a:=by
 by_cases h:a=b
 ·exact .inr (.inl h)
 ·have:a.1≠b.1∨a.2≠b.2:=by
   by_cases h1:a.1=b.1
   ·exact .inr fun h2=>h (Prod.ext h1 h2)
   ·exact .inl h1
  unfold kcLt;omega
theorem ZeM {a:KC}:¬ kcLt a a:=by unfold kcLt;omega
theorem Zdh (x:Int):Spec Tryz.prog Tab 149 [int x] (bool false):=by
 refine Zd Tryz.func149 rfl rfl Tryz.ntmps149 rfl (by kernel_rfl) rfl rfl ?_
 refine Eq.trans (b:=bool (x !=x)) ?_ rfl
 simp
theorem Zb8 (x y:Int):Spec Tryz.prog Tab 127 [int x,int y] (int (cmpZ x y)):=by
 refine Zd Tryz.func127 rfl rfl Tryz.ntmps127 rfl (by kernel_rfl) rfl rfl ?_
 refine use (Zdh x) rfl ?_
 refine use (Zdh y) rfl ?_
 refine⟨fun e=>absurd e (by decide),fun _=> ?_⟩
 refine⟨fun e=>absurd e (by decide),fun _=> ?_⟩
 refine⟨fun e1=> ?_,fun e1=> ?_⟩
 ·have f16:x< y:=of_decide_eq_true e1
  refine Eq.trans (b:=int (-1)) ?_ rfl
  unfold cmpZ
  rw [if_pos f16]
 ·have f16:¬ (x< y):=of_decide_eq_false e1
  refine⟨fun e2=> ?_,fun e2=> ?_⟩
  ·have f19:x >y:=of_decide_eq_true e2
   refine Eq.trans (b:=int 1) ?_ rfl
   unfold cmpZ
   rw [if_neg f16,if_pos f19]
  ·have f19:¬ (x >y):=of_decide_eq_false e2
   refine Eq.trans (b:=int 0) ?_ rfl
   unfold cmpZ
   rw [if_neg f16,if_neg f19]
theorem ZbF (a b:KC):Spec Tryz.prog Tab 98 [cell a.1 a.2,cell b.1 b.2] (int (ordZ a b)):=by
 refine Zd Tryz.func98 rfl rfl Tryz.ntmps98 rfl (by kernel_rfl) rfl rfl ?_
 refine use (Zb8 a.2 b.2) rfl ?_
 refine⟨fun e1=> ?_,fun e1=> ?_⟩
 ·have f12:cmpZ a.2 b.2≠0:=Zhe e1
  refine Eq.trans (b:=int (cmpZ a.2 b.2)) ?_ rfl
  unfold ordZ
  rw [if_neg f12]
 ·have f12:¬ (cmpZ a.2 b.2≠0):=fun hh=>hh (Zhf e1)
  refine use (Zb8 a.1 b.1) rfl ?_
  refine Eq.trans (b:=int (cmpZ a.1 b.1)) ?_ rfl
  unfold ordZ
  rw [if_pos (Decidable.byContradiction f12)]
theorem ZhN:Go.Sort.SWO (ltOf fun (x y:KC)=>ordZ x y) where
 irrefl x:=by
  unfold ltOf
  rw [decide_eq_false]
  exact fun h=>ZeM (Zac.1 h)
 trans x y z h1 h2:=by
  unfold ltOf at*
  exact decide_eq_true (Zac.2 (Zbq (Zac.1 (of_decide_eq_true h1)) (Zac.1 (of_decide_eq_true h2))))
 ntrans x y z h1 h2:=by
  unfold ltOf at*
  have h1:=of_decide_eq_false h1
  have h2:=of_decide_eq_false h2
  refine decide_eq_false fun h3=> ?_
  rw [Zac] at h1 h2 h3
  unfold kcLt at*
  omega
theorem Znb (p:KC):∀ v,v∈kcV p→flat v=true:=by
 intro v hv
 simp only [kcV,List.mem_cons,List.not_mem_nil,or_false] at hv
 rcases hv with rfl|rfl<;>rfl
theorem Zj8 (l:List KC) (hn:l.length≤1048576):∃ l':List KC,l'.Perm l∧l'.Pairwise (fun x y=>¬ kcLt y x)∧
  SpecS Tryz.prog Tab 97 [.val (.one (.row 1000 0)),fv 98] 69 2 (l.map kcD) (.tup []) (l'.map kcD):=by
 obtain⟨l1,h1,h2,h3⟩:=Zke (fun (x y:KC)=>ordZ x y) ZhN l
 refine⟨l1,h1,h2.imp fun {a b} h g=>h (Zac.2 g),?_⟩
 have hs:=Zkh (P:=Tryz.prog) (G:=Tab) (k:=2) (enc:=fun x:KC=>kcV x) Tryz.sortCell Tryz.isAgg69 Tryz.sizeOf69 (fun _=>rfl) (by decide) (fun x=>Znb x) (fun x y=>ordZ x y) ZhN 98
   (Zm Tryz.func98 rfl rfl) (fun x y w hG=>ZeV (ZbF x y) rfl hG (ZgJ rfl)) 69 l (by omega)
 rw [h3] at hs
 exact hs
def keptZ (l:List KC) (m:Nat):List KC:=(List.range m).filterMap fun i=>if i=0∨l[i]? ≠l[i - 1]? then l[i]? else none
theorem Zch (l:List KC) (m:Nat):keptZ l (m+1)=keptZ l m++(if m=0∨l[m]? ≠l[m - 1]? then l[m]? else none).toList:=by
 unfold keptZ
 rw [List.range_succ,List.filterMap_append]
 cases h:(if m=0∨l[m]? ≠l[m - 1]? then l[m]? else none)<;>simp [h]
theorem ZcH (l:List KC) (m:Nat):(keptZ l m).length≤m:=by
 have:=List.length_filterMap_le (fun i=>if i=0∨l[i]? ≠l[i - 1]? then l[i]? else none) (List.range m)
 simpa [keptZ] using this
theorem Zbc {l:List KC} {m:Nat} {x:KC} (hx:l[m]? =some x) (h:m=0∨l[m - 1]? ≠some x):keptZ l (m+1)=keptZ l m++ [x]:=by
 rw [Zch,if_pos (by rcases h with h|h;exact .inl h;right;rw [hx];exact fun e=>h e.symm),hx];rfl
theorem Zbp {l:List KC} {m:Nat} {x:KC} (h0:0< m) (hx:l[m]? =some x) (h:l[m - 1]? =some x):keptZ l (m+1)=keptZ l m:=by
 rw [Zch,if_neg (by rintro(e|e);omega;rw [hx,h] at e;exact e rfl)];simp
theorem ZaK {l:List KC}:∀ {m:Nat},m≤l.length→(∀ i,0< i→i< m→l[i]? ≠l[i - 1]?)→keptZ l m=l.take m
 |0,_,_=>rfl
 |m+1,h,hd=>by
  obtain⟨x,hx⟩:∃ x,l[m]? =some x:=⟨_,List.getElem?_eq_getElem (by omega)⟩
  rw [Zbc hx (by
   by_cases h0:m=0
   ·exact .inl h0
   ·right;rw [← hx];exact fun e=>hd m (by omega) (by omega) e.symm),ZaK (by omega) fun i h1 h2=>hd i h1 (by omega),List.take_add_one,hx];rfl
def cmpY (l:List KC) (m:Nat):List KC:=keptZ l m++l.drop (keptZ l m).length
theorem Znt {l:List KC} {m:Nat} (h:m≤l.length):(cmpY l m).length=l.length:=by
 have:=ZcH l m
 simp only [cmpY,List.length_append,List.length_drop];omega
theorem Zpz {l:List KC} {m i:Nat} (h:(keptZ l m).length≤i):(cmpY l m)[i]? =l[i]? :=by
 unfold cmpY
 rw [List.getElem?_append_right h,List.getElem?_drop]
 congr 1;omega
theorem Zl1 {l:List KC} {m:Nat} (h:m≤l.length) (hd:∀ i,0< i→i< m→l[i]? ≠l[i - 1]?):cmpY l m=l:=by
 unfold cmpY
 rw [ZaK h hd,List.length_take,Nat.min_eq_left h,List.take_append_drop]
theorem Zl2 {l:List KC} {m:Nat} {x:KC} (h0:0< m) (hx:l[m]? =some x) (h:l[m - 1]? =some x):cmpY l (m+1)=cmpY l m:=by unfold cmpY;rw [Zbp h0 hx h]
theorem Zns {l:List KC} {m:Nat} {x:KC} (hx:l[m]? =some x) (h:l[m - 1]? ≠some x):(cmpY l m).set (keptZ l m).length x=cmpY l (m+1):=by
 have hk:=ZcH l m
 have hm:m< l.length:=(List.getElem?_eq_some_iff.1 hx).1
 unfold cmpY
 rw [Zbc hx (.inr h),List.set_append_right _ _ (Nat.le_refl _),Nat.sub_self,List.length_append,List.length_singleton,List.append_assoc]
 congr 1
 obtain⟨y,r,e⟩:∃ y r,l.drop (keptZ l m).length=y :: r:=by
  cases e:l.drop (keptZ l m).length with
  |nil=>have:=congrArg List.length e;rw [List.length_drop] at this;simp at this;omega
  |cons y r=>exact⟨y,r,rfl⟩
 rw [e,List.set_cons_zero,← List.drop_drop,e];rfl
theorem Zh3 {l:List KC} {k:Nat} {x:KC} (h0:0< k) (hx:l[k]? =some x) (h:l[k - 1]? =some x):∀ j,1≤j→(keptZ l (k+j)).length< k+j
 |1,_=>by rw [Zbp h0 hx h];have:=ZcH l k;omega
 |j+2,_=>by
  have ih:=Zh3 h0 hx h (j+1) (by omega)
  have:(keptZ l (k+(j+1)+1)).length≤(keptZ l (k+(j+1))).length+1:=by
   rw [Zch,List.length_append]
   have:(if k+(j+1)=0∨l[k+(j+1)]? ≠l[k+(j+1) - 1]? then l[k+(j+1)]? else none).toList.length≤1:=by split<;>simp [Option.length_toList];split<;>omega
   omega
  rw [show k+(j+2)=k+(j+1)+1 by omega];omega
set_option maxHeartbeats 4000000 in
theorem Zeb (l:List KC) (hn:l.length≤1048576):SpecT Tryz.prog Tab 99 [.val (.one (.row 1000 0))] 69 2 (List.map kcD l) 69 2 (List.map kcD (keptZ l l.length)):=by
 have hL:(List.map kcD l).length=l.length:=List.length_map ..
 refine fn_T [] Tryz.func99 rfl rfl Tryz.ntmps99 rfl (by kernel_rfl) rfl rfl ?_
 refine⟨fun e1=> ?_,fun e1=> ?_⟩
 ·have f8:((List.map kcD l).length:Int)< 2:=of_decide_eq_true e1
  rw [ZaK (Nat.le_refl _) (fun i h1 h2=>by omega),List.take_length]
  exact rfl
 ·have f8:¬ (((List.map kcD l).length:Int)< 2):=of_decide_eq_false e1
  refine⟨Nat,fun i=> [(0,.val (.one (.row 1000 0))),(3,int (i:Int))],
   fun i=> [(1000,.row 69 2 0 (List.map kcD l) true)],fun i=>1≤i∧i≤l.length∧∀ j,0< j→j< i→l[j]? ≠l[j - 1]?,fun i=>l.length - i,1,?_,⟨by omega,by omega,fun j h1 h2=>by omega⟩,fun i hs=> ?_⟩
  ·constructor<;>(repeat' (first|exact rfl|exact True.intro|exact⟨_,_,rfl⟩|exact(by decide)|apply And.intro))
   all_goals first|exact congrArg (fun n:Int=>D.v (.int .i64 n)) (by omega)|exact congrArg (fun n:Int=>D.v (.int .i64 n)) (by rw [wrap64 _ (by omega) (by omega)];omega)|(simp;done)
  obtain⟨g0,g1,g2⟩:=hs
  refine⟨fun e2=> ?_,fun e2=> ?_⟩
  ·have f13:(i:Int)< ((List.map kcD l).length:Int):=of_decide_eq_true e2
   refine k_at_own' i (by first|rfl|omega|(rw [wrap64 _ (by omega) (by omega)];omega)|(rw [wrap64 _ (by omega) (by omega)];split<;>omega)) (by first|omega|(simp only [List.length_set];omega)|(simp;omega)) ?_
   refine get_ex (l:=l) (i:=i) (by first|omega|exact Nat.mod_lt _ (by omega)) fun x19 hx19=> ?_
   refine Z0 [D.v (.int .i64 (x19.1)),D.v (.int .i64 (x19.2))] _ (Zj hx19) rfl rfl ?_
   refine k_at_own' (i - 1) (by first|rfl|omega|(rw [wrap64 _ (by omega) (by omega)];omega)|(rw [wrap64 _ (by omega) (by omega)];split<;>omega)) (by first|omega|(simp only [List.length_set];omega)|(simp;omega)) ?_
   refine get_ex (l:=l) (i:=(i - 1)) (by first|omega|exact Nat.mod_lt _ (by omega)) fun x24 hx24=> ?_
   refine Z0 [D.v (.int .i64 (x24.1)),D.v (.int .i64 (x24.2))] _ (Zj hx24) rfl rfl ?_
   refine Zcv (fun f25=> ?_) (fun f25=> ?_)
   ·refine⟨by kernel_rfl,?_⟩
    refine⟨fun _=> ?_,fun e=>absurd e (by decide)⟩
    refine⟨_,⟨by first|omega|decide,by first|omega|(simp;omega)|simp,rfl⟩,?_⟩
    have e24:x19=x24:=Prod.ext f25.1 f25.2
    have hk1:=Zbp (l:=l) (m:=i) (by omega) hx19 (by rw [e24];exact hx24)
    have hkt:=ZaK (l:=l) (m:=i) (by omega) g2
    have hkl:(keptZ l (i+1)).length=i:=by rw [hk1,hkt,List.length_take];omega
    have hct:=(Zl2 (l:=l) (m:=i) (by omega) hx19 (by rw [e24];exact hx24)).trans (Zl1 (by omega) g2)
    refine⟨Nat,fun j=> [(0,.val (.one (.row 1000 0))),(3,int ((keptZ l (i+j)).length:Int)),(4,.val (.one (.rs 1000 0 2 i))),(5,int (j:Int))],
     fun j=> [(1000,.row 69 2 0 (List.map kcD (cmpY l (i+j))) true)],fun j=>1≤j∧i+j≤l.length,fun j=>l.length - j,1,?_,⟨by omega,by omega⟩,fun j hs=> ?_⟩
    ·constructor<;>(repeat' (first|exact rfl|exact True.intro|exact⟨_,_,rfl⟩|exact(by decide)|apply And.intro))
     all_goals first
      |exact congrArg (fun n:Int=>D.v (.int .i64 n)) (by rw [hkl])
      |(rw [hct];done)
      |exact congrArg (List.map kcD) hct
      |exact congrArg (List.map kcD) hct.symm
      |exact Int.toNat_natCast i
      |exact(Int.toNat_natCast i).symm
    obtain⟨j1,j2⟩:=hs
    have hke:=Zh3 (l:=l) (k:=i) (by omega) hx19 (by rw [e24];exact hx24) j j1
    have hcl2:=Znt (l:=l) j2
    have hcl:(List.map kcD (cmpY l (i+j))).length=l.length:=by rw [List.length_map,hcl2]
    have hw1:IntKind.i64.wrap ((j:Int) - 1)=(j:Int) - 1:=wrap64 _ (by omega) (by omega)
    have cX:∀ (q:Nat) {x:KC},(keptZ l (i+j)).length≤q→l[q]? =some x→(cmpY l (i+j))[q]? =some x:=fun q x h1 h2=>by rw [Zpz h1];exact h2
    refine⟨fun e4=> ?_,fun e4=> ?_⟩
    ·have f32:(j:Int)< (((List.map kcD (cmpY l (i+j))).length - i:Nat):Int):=of_decide_eq_true e4
     refine⟨_,⟨by omega,by first|omega|(simp;omega),rfl⟩,?_⟩
     refine get_ex (l:=l) (i:=(i+j)) (by first|omega|exact Nat.mod_lt _ (by omega)) fun x38 hx38=> ?_
     refine Z0 [D.v (.int .i64 (x38.1)),D.v (.int .i64 (x38.2))] _ (Zj (cX _ (by omega) hx38)) rfl rfl ?_
     refine⟨_,⟨by omega,by first|omega|(simp;omega),rfl⟩,?_⟩
     refine get_ex (l:=l) (i:=(i+j - 1)) (by first|omega|exact Nat.mod_lt _ (by omega)) fun x43 hx43=> ?_
     refine Z0 [D.v (.int .i64 (x43.1)),D.v (.int .i64 (x43.2))] _ (Zj (by rw [hw1,show i+((j:Int) - 1).toNat=i+j - 1 by omega];exact cX _ (by omega) hx43)) rfl rfl ?_
     refine ZfR (fun f44=> ?_) (fun f44=> ?_)
     ·refine⟨by kernel_rfl,?_⟩
      refine⟨fun e=>absurd e (by decide),fun _=> ?_⟩
      have e47:x38=x43:=Prod.ext f44.1 f44.2
      have hkk:=Zbp (l:=l) (m:=i+j) (by omega) hx38 (by rw [e47];exact hx43)
      have hcc:=Zl2 (l:=l) (m:=i+j) (by omega) hx38 (by rw [e47];exact hx43)
      refine⟨j+1,by omega,by simp only;omega,?_⟩
      constructor<;>(repeat' (first|exact rfl|exact True.intro|apply And.intro))
      all_goals first
       |(rw [Nat.add_assoc] at hcc;rw [hcc];done)
       |exact congrArg (fun n:Int=>D.v (.int .i64 n)) (by rw [← Nat.add_assoc,hkk])
       |(rw [Nat.add_assoc] at hkk;rw [hkk];done)
       |exact congrArg (fun n:Int=>D.v (.int .i64 n)) (by rw [wrap64 _ (by omega) (by omega)];omega)
       |exact congrArg (fun n:Int=>D.v (.int .i64 n)) (by omega)
     ·refine⟨by kernel_rfl,?_⟩
      refine⟨fun _=> ?_,fun e=>absurd e (by decide)⟩
      refine⟨_,⟨by omega,by first|omega|(simp;omega),rfl⟩,?_⟩
      refine Z0 [D.v (.int .i64 (x38.1)),D.v (.int .i64 (x38.2))] _ (Zj (cX _ (by omega) hx38)) rfl rfl ?_
      refine k_at_own' ((((keptZ l (i+j)).length:Int)).toNat) (by first|rfl|omega|(rw [wrap64 _ (by omega) (by omega)];omega)|(rw [wrap64 _ (by omega) (by omega)];split<;>omega)) (by first|omega|(simp only [List.length_set];omega)|(simp;omega)) ?_
      refine⟨by first|omega|(simp only [List.length_set];omega)|(simp;omega),?_⟩
      have g44:¬ x38=x43:=fun e=>f44 ⟨congrArg Prod.fst e,congrArg Prod.snd e⟩
      have hkk:=Zbc hx38 (.inr (by rw [hx43];exact fun e=>g44 (Option.some.inj e).symm))
      have hcc:=Zns hx38 (by rw [hx43];exact fun e=>g44 (Option.some.inj e).symm)
      refine⟨j+1,by omega,by simp only;omega,?_⟩
      constructor<;>(repeat' (first|exact rfl|exact True.intro|apply And.intro))
      all_goals first
       |(rw [Nat.add_assoc] at hcc;rw [← hcc,List.map_set];rfl)
       |exact congrArg (fun n:Int=>D.v (.int .i64 n)) (by rw [wrap64 _ (by omega) (by omega),← Nat.add_assoc,hkk,List.length_append];simp)
       |exact congrArg (fun n:Int=>D.v (.int .i64 n)) (by rw [wrap64 _ (by omega) (by omega)];omega)
       |exact congrArg (fun n:Int=>D.v (.int .i64 n)) (by omega)
    ·have f32:¬ ((j:Int)< (((List.map kcD (cmpY l (i+j))).length - i:Nat):Int)):=of_decide_eq_false e4
     refine⟨_,⟨by first|omega|decide,by first|omega|(simp;omega)|simp,rfl⟩,?_⟩
     refine⟨⟨by first|omega|decide,by first|omega|(simp only [List.length_append,List.length_take,List.length_replicate,List.length_map];omega)|(simp;omega)|simp⟩,?_⟩
     have hik:i+j=l.length:=by omega
     rw [hik] at*
     exact congrArg (fun m=>Ob.row _ 2 _ m true) (by simp [cmpY])
   ·refine⟨by kernel_rfl,?_⟩
    refine⟨fun e=>absurd e (by decide),fun _=> ?_⟩
    refine⟨i+1,⟨by omega,by omega,fun j h1 h2=>by
     by_cases e:j=i
     ·subst e;rw [hx19,hx24];exact fun e=>f25 ⟨congrArg Prod.fst (Option.some.inj e),congrArg Prod.snd (Option.some.inj e)⟩
     ·exact g2 j h1 (by omega)⟩,by simp only;omega,?_⟩
    constructor<;>(repeat' (first|exact rfl|exact True.intro|apply And.intro))
    all_goals first
     |exact congrArg (fun n:Int=>D.v (.int .i64 n)) (by rw [wrap64 _ (by omega) (by omega)];omega)
     |exact congrArg (fun n:Int=>D.v (.int .i64 n)) (by omega)
  ·have f13:¬ ((i:Int)< ((List.map kcD l).length:Int)):=of_decide_eq_false e2
   rw [ZaK (Nat.le_refl _) (fun j h1 h2=>g2 j h1 (by omega)),List.take_length]
   exact rfl
end
end Go.Proofs.YtiekmbmgpachpaaGreatDoor.eng
namespace Go.Proofs.YtiekmbmgpachpaaGreatDoor.eng
open Go.RowKit num mem seg q held ratA ratB ratC ratD ratE vars ratF prf
section
variable {K : AV → Prop}
theorem ZpE:Tryz.prog.underlying 3=some (.int .i64):=by kernel_rfl
theorem ZfX {α:Type} {L:List (List α)} {i:Nat} {m:List α} (h:L[i]? =some m):(L.take (i+1)).flatten.length=(L.take i).flatten.length+m.length:=by
 rw [List.take_add_one,h,List.flatten_append,List.length_append];simp
theorem ZeO {α:Type} (L:List (List α)) (i:Nat):(L.take i).flatten.length≤L.flatten.length:=by
 have e:L.flatten=(L.take i).flatten++(L.drop i).flatten:=by rw [← List.flatten_append,List.take_append_drop]
 rw [e,List.length_append];omega
theorem Zd7 {α β:Type} (g:α→β) {L:List (List α)} {i:Nat} {m:List α} (h:L[i]? =some m):List.map g (L.take (i+1)).flatten=List.map g (L.take i).flatten++List.map g m:=by
 rw [List.take_add_one,h,List.flatten_append,List.map_append];simp
theorem ZhJ {R:KC→KC→Prop} {s:List KC} (h:s.Pairwise R) {i j:Nat} {a b:KC} (hij:i< j) (ha:s[i]? =some a) (hb:s[j]? =some b):R a b:=by
 obtain⟨h1,rfl⟩:=List.getElem?_eq_some_iff.1 ha
 obtain⟨h2,rfl⟩:=List.getElem?_eq_some_iff.1 hb
 exact List.pairwise_iff_getElem.1 h i j h1 h2 hij
theorem ZfN (l:List KC):∀ m,m≤l.length→∀ q,q∈keptZ l m↔q∈l.take m
 |0,_,q=>by simp [keptZ]
 |m+1,h,q=>by
  have hx:l[m]? =some (l[m]'(by omega)):=List.getElem?_eq_getElem (by omega)
  have ih:=ZfN l m (by omega) q
  by_cases hd:m=0∨l[m - 1]? ≠l[m]?
  ·rw [Zbc hx (by rw [← hx];exact hd),List.take_add_one,hx]
   simp only [List.mem_append,Option.toList_some,ih]
  ·have h0:0< m:=by omega
   have hs:l[m - 1]? =l[m]? :=Decidable.byContradiction fun e=>hd (.inr e)
   rw [Zbp h0 hx (hs.trans hx),List.take_add_one,hx,List.mem_append,ih]
   refine⟨.inl,fun g=>g.elim id fun g=> ?_⟩
   obtain rfl:q=l[m]'(by omega):=by simpa using g
   have h2:(l.take m)[m - 1]? =some (l[m]'(by omega)):=by rw [List.getElem?_take_of_lt (by omega),hs,hx]
   exact List.mem_of_getElem? h2
theorem Zh2 {l:List KC} (hs:l.Pairwise fun x y=>¬ kcLt y x):∀ m,m≤l.length→(keptZ l m).Pairwise kcLt∧∀ q,q∈keptZ l m→∀ x,l[m - 1]? =some x→0< m→q=x∨kcLt q x
 |0,_=>⟨by simp [keptZ],fun q hq=>by simp [keptZ] at hq⟩
 |m+1,h=>by
  have hx:l[m]? =some (l[m]'(by omega)):=List.getElem?_eq_getElem (by omega)
  obtain⟨i1,i2⟩:=Zh2 hs m (by omega)
  by_cases hd:m=0∨l[m - 1]? ≠l[m]?
  ·rw [Zbc hx (by rw [← hx];exact hd)]
   have hlt:∀ q,q∈keptZ l m→kcLt q (l[m]'(by omega)):=by
    intro q hq
    rcases Nat.eq_zero_or_pos m with rfl|hm0
    ·simp [keptZ] at hq
    ·have hd:=hd.resolve_left (by omega)
     have hy:l[m - 1]? =some (l[m - 1]'(by omega)):=List.getElem?_eq_getElem (by omega)
     have hyx:kcLt (l[m - 1]'(by omega)) (l[m]'(by omega)):=by
      rcases Zjj (l[m - 1]'(by omega)) (l[m]'(by omega)) with g|g|g
      ·exact g
      ·exact absurd (by rw [hy,hx,g]) hd
      ·exact absurd g (ZhJ hs (by omega) hy hx)
     rcases i2 q hq _ hy hm0 with rfl|g
     ·exact hyx
     ·exact Zbq g hyx
   refine⟨List.pairwise_append.2 ⟨i1,List.pairwise_singleton ..,fun a ha b hb=> ?_⟩,fun q hq x h2 _=> ?_⟩
   ·rw [List.mem_singleton.1 hb];exact hlt a ha
   ·rw [Nat.add_sub_cancel,hx] at h2
    rw [← Option.some.inj h2]
    rcases List.mem_append.1 hq with g|g
    ·exact .inr (hlt q g)
    ·exact .inl (List.mem_singleton.1 g)
  ·have h0:0< m:=by omega
   have hs':l[m - 1]? =l[m]? :=Decidable.byContradiction fun e=>hd (.inr e)
   rw [Zbp h0 hx (hs'.trans hx)]
   exact⟨i1,fun q hq x h2 _=>i2 q hq x (by rw [hs'];rwa [Nat.add_sub_cancel] at h2) h0⟩
theorem ZjM (n:Nat) (h0:0< n) (hn:n≤1048576):SpecR Tryz.prog Tab 124 [.val (.one (.d (.v (.slice none 0 0)))),int (n:Int)] 69 2 ([]):=by
 have hwn:IntKind.i64.wrap ((n:Int) - 0)=(n:Int):=by rw [Int.sub_zero];exact wrap64 _ (by omega) (by omega)
 refine ZlE Tryz.func124 rfl rfl Tryz.ntmps124 rfl (by kernel_rfl) rfl rfl ?_
 refine⟨fun e1=> ?_,fun e1=> ?_⟩
 ·have f6:(n:Int)< 0:=of_decide_eq_true e1
  exfalso
  omega
 ·have f6:¬ ((n:Int)< 0):=of_decide_eq_false e1
  refine⟨fun e2=> ?_,fun e2=> ?_⟩
  ·have f16:IntKind.i64.wrap ((n:Int) - 0) >0:=of_decide_eq_true e2
   refine⟨_,⟨rfl,rfl⟩,?_⟩
   refine⟨⟨⟨_,ZpE⟩,by show 0< IntKind.i64.wrap ((n:Int) - 0);rw [hwn];omega,by show IntKind.i64.wrap ((n:Int) - 0)*16≤_;rw [hwn];omega,by show IntKind.i64.wrap ((n:Int) - 0)≤_;rw [hwn];omega⟩,?_⟩
   refine⟨⟨by first|omega|decide,by first|omega|(simp only [List.length_append,List.length_take,List.length_replicate,List.length_map];omega)|(simp;omega)|simp⟩,?_⟩
   exact rfl
  ·have f16:¬ (IntKind.i64.wrap ((n:Int) - 0) >0):=of_decide_eq_false e2
   exfalso
   rw [hwn] at f16;omega
theorem Zcx (L:List (List KC)) (h0:0< L.flatten.length) (hfl:L.flatten.length≤1048576) (hn:L.length≤1048576):SpecR Tryz.prog Tab 96 [.val (.one (.d (.list (List.map kcL L))))] 69 2 (List.map kcD L.flatten):=by
 have hLl:(List.map kcL L).length=L.length:=List.length_map ..
 refine Zg4 [24] Tryz.func96 rfl rfl Tryz.ntmps96 rfl (by kernel_rfl) rfl rfl ?_
 refine⟨Nat,fun i=> [(0,.val (.one (.d (.list (List.map kcL L))))),(3,int ((L.take i).flatten.length:Int)),(9,.val (.one (.d (.list (List.map kcL L))))),(10,int ((List.map kcL L).length:Int)),(11,int (i:Int))],
  fun i=> [],fun i=>i≤L.length,fun i=>L.length - i,0,?_,Nat.zero_le _,fun i hs=> ?_⟩
 ·constructor<;>(repeat' (first|exact rfl|exact True.intro|exact⟨_,_,rfl⟩|exact(by decide)|apply And.intro))
  all_goals first|exact congrArg (fun n:Int=>D.v (.int .i64 n)) (by omega)|exact congrArg (fun n:Int=>D.v (.int .i64 n)) (by rw [wrap64 _ (by omega) (by omega)];omega)|(simp;done)
 refine⟨fun e1=> ?_,fun e1=> ?_⟩
 ·have f12:(i:Int)< ((List.map kcL L).length:Int):=of_decide_eq_true e1
  refine get_ex (l:=L) (i:=i) (by first|omega|exact Nat.mod_lt _ (by omega)) fun x13 hx13=> ?_
  have hmx13:(List.map kcD x13).length=x13.length:=List.length_map ..
  have hfx13:=ZfX hx13
  have hgx13:=ZeO L (i+1)
  refine k_ix i [D.list (List.map kcD x13)] (by first|rfl|omega|(rw [wrap64 _ (by omega) (by omega)];omega)|(rw [wrap64 _ (by omega) (by omega)];split<;>omega)) (Zj hx13) rfl ?_
  refine⟨fun e2=> ?_,fun e2=> ?_⟩
  ·have f20:IntKind.i64.wrap (((L.take i).flatten.length:Int)+((List.map kcD x13).length:Int))< 0:=of_decide_eq_true e2
   exfalso
   rw [wrap64 _ (by omega) (by omega)] at f20;omega
  ·have f20:¬ (IntKind.i64.wrap (((L.take i).flatten.length:Int)+((List.map kcD x13).length:Int))< 0):=of_decide_eq_false e2
   refine⟨i+1,by omega,by simp only;omega,?_⟩
   constructor<;>(repeat' (first|exact rfl|exact True.intro|apply And.intro))
   all_goals first
    |exact congrArg (fun n:Int=>D.v (.int .i64 n)) (by rw [wrap64 _ (by omega) (by omega)];omega)
    |exact congrArg (fun n:Int=>D.v (.int .i64 n)) (by rw [wrap64 _ (by omega) (by omega)];omega)
    |exact congrArg (fun n:Int=>D.v (.int .i64 n)) (by omega)
 ·have f12:¬ ((i:Int)< ((List.map kcL L).length:Int)):=of_decide_eq_false e1
  have hgr:=ZjM L.flatten.length h0 hfl
  have hLi:(L.take i).flatten.length=L.flatten.length:=by rw [show i=L.length by omega,List.take_length]
  rw [← hLi] at hgr
  refine useN hgr ?_
  refine⟨Nat,fun i=> [(6,.val (.one (.row 24 0))),(25,.val (.one (.d (.list (List.map kcL L))))),(26,int ((List.map kcL L).length:Int)),(27,int (i:Int))],
   fun i=> [(24,.row 69 2 0 (List.map kcD ((L.take i).flatten)) true)],fun i=>i≤L.length,fun i=>L.length - i,0,?_,Nat.zero_le _,fun i hs=> ?_⟩
  ·constructor<;>(repeat' (first|exact rfl|exact True.intro|exact⟨_,_,rfl⟩|exact(by decide)|apply And.intro))
   all_goals first|exact congrArg (fun n:Int=>D.v (.int .i64 n)) (by omega)|exact congrArg (fun n:Int=>D.v (.int .i64 n)) (by rw [wrap64 _ (by omega) (by omega)];omega)|(simp;done)
  have hT:(List.map kcD (L.take i).flatten).length=(L.take i).flatten.length:=List.length_map ..
  have hg0:=ZeO L i
  refine⟨fun e3=> ?_,fun e3=> ?_⟩
  ·have f28:(i:Int)< ((List.map kcL L).length:Int):=of_decide_eq_true e3
   refine get_ex (l:=L) (i:=i) (by first|omega|exact Nat.mod_lt _ (by omega)) fun x29 hx29=> ?_
   have hmx29:(List.map kcD x29).length=x29.length:=List.length_map ..
   have hfx29:=ZfX hx29
   have hgx29:=ZeO L (i+1)
   refine k_ix i [D.list (List.map kcD x29)] (by first|rfl|omega|(rw [wrap64 _ (by omega) (by omega)];omega)|(rw [wrap64 _ (by omega) (by omega)];split<;>omega)) (Zj hx29) rfl ?_
   refine⟨⟨(ZeJ fun _=>rfl),(by show ((List.map kcD ((L.take i).flatten)).length+(List.map kcD x29).length)*16≤_;omega),(by show ((List.map kcD ((L.take i).flatten)).length+(List.map kcD x29).length)≤_;omega)⟩,?_⟩
   refine⟨i+1,by omega,by simp only;omega,?_⟩
   constructor<;>(repeat' (first|exact rfl|exact True.intro|apply And.intro))
   all_goals first
    |exact(Zd7 kcD hx29).symm
    |exact Zd7 kcD hx29
    |exact congrArg (fun n:Int=>D.v (.int .i64 n)) (by rw [wrap64 _ (by omega) (by omega)];omega)
    |exact congrArg (fun n:Int=>D.v (.int .i64 n)) (by omega)
  ·have f28:¬ ((i:Int)< ((List.map kcL L).length:Int)):=of_decide_eq_false e3
   exact congrArg (fun m=>Ob.row _ 2 _ (List.map kcD (List.flatten m)) true) (List.take_of_length_le (by omega))
theorem Zkf (L:List (List KC)) (h0:0< L.flatten.length) (hfl:L.flatten.length≤1048576) (hn:L.length≤1048576) (M:List KC) (hM:M.length≤1048576) (hS:SpecS Tryz.prog Tab 97 [.val (.one (.row 1000 0)),fv 98] 69 2 (L.flatten.map kcD) (.tup []) (M.map kcD)):SpecR Tryz.prog Tab 54 [.val (.one (.d (.list (List.map kcL L))))] 69 2 (List.map kcD (keptZ M M.length)):=by
 refine Zg4 [5,500007,9] Tryz.func54 rfl rfl Tryz.ntmps54 rfl (by kernel_rfl) rfl rfl ?_
 refine useN (Zcx L h0 hfl hn) ?_
 refine⟨.tup [],List.map kcD M,⟨rfl,hS⟩,?_⟩
 refine⟨_,_,_,Zeb M hM,?_⟩
 exact rfl
theorem Zkg (L:List (List KC)) (h0:0< L.flatten.length) (hfl:L.flatten.length≤1048576) (hn:L.length≤1048576) (M:List KC) (hM:M.length≤1048576) (hS:SpecS Tryz.prog Tab 97 [.val (.one (.row 1000 0)),fv 98] 69 2 (L.flatten.map kcD) (.tup []) (M.map kcD)):Spec Tryz.prog Tab 54 [.val (.one (.d (.list (List.map kcL L))))] (.val (.one (.d (.list (List.map kcD (keptZ M M.length)))))):=by
 refine Zcw [5,500007,9] Tryz.func54 rfl rfl Tryz.ntmps54 rfl (by kernel_rfl) rfl rfl ?_
 refine useN (Zcx L h0 hfl hn) ?_
 refine⟨.tup [],List.map kcD M,⟨rfl,hS⟩,?_⟩
 refine⟨_,_,_,Zeb M hM,?_⟩
 refine Eq.trans (b:= .val (.one (.d (.list (List.map kcD (keptZ M M.length)))))) ?_ rfl
 rfl
theorem sortedZ (L:List (List KC)) (h0:0< L.flatten.length) (hfl:L.flatten.length≤1048576) (hn:L.length≤1048576):∃ M:List KC,M.Pairwise kcLt∧(∀ c,c∈M↔c∈L.flatten)∧M.length≤L.flatten.length∧
  SpecR Tryz.prog Tab 54 [.val (.one (.d (.list (List.map kcL L))))] 69 2 (List.map kcD M)∧Spec Tryz.prog Tab 54 [.val (.one (.d (.list (List.map kcL L))))] (.val (.one (.d (.list (List.map kcD M))))):=by
 obtain⟨M,h1,h2,h3⟩:=Zj8 L.flatten hfl
 have hl:=h1.length_eq
 exact⟨keptZ M M.length,(Zh2 h2 M.length (Nat.le_refl _)).1,fun c=>by rw [ZfN M M.length (Nat.le_refl _),List.take_length];exact h1.mem_iff,by have:=ZcH M M.length;omega,Zkf L h0 hfl hn M (by omega) h3,Zkg L h0 hfl hn M (by omega) h3⟩
end
end Go.Proofs.YtiekmbmgpachpaaGreatDoor.eng
namespace Go.Proofs.YtiekmbmgpachpaaGreatDoor.eng
open Go.RowKit num mem seg q held ratA ratB ratC ratD ratE vars ratF
section
variable {K : AV → Prop} {T : TypeId} {ox oy : Operand}
theorem bwz64 {m:Int} (h0:0≤m) (h1:m< 18446744073709551616):IntKind.u64.wrap m=m:=by
 unfold IntKind.wrap
 simp [IntKind.signed,IntKind.bits]
 omega
theorem Zmw (T:TypeId) (ox oy:Operand) (k:IntKind) (n r:Nat) (hr:r≤64) (w:World):(do eqGuard .shr T ox oy (.int .u64 (n:Int)) (.int k (r:Int));binOp .shr T (.int .u64 (n:Int)) (.int k (r:Int)):Sem Value).run Tryz.prog w= .ok (.int .u64 ((n / 2 ^ r:Nat):Int)) w:=by
 have hg:eqGuard .shr T ox oy (.int .u64 (n:Int)) (.int k (r:Int))=pure ():=rfl
 rw [hg,binOp_shr]
 unfold Op.shift
 rw [if_neg (by omega)]
 have hm:min (r:Int).toNat IntKind.u64.bits=r:=by rw [Int.toNat_natCast];exact Nat.min_eq_left hr
 have e1:(n:Int).fdiv (2 ^ r)=((n / 2 ^ r:Nat):Int):=by
  have:(2:Int) ^ r=((2 ^ r:Nat):Int):=by rw [Int.natCast_pow];rfl
  rw [this,Int.fdiv_eq_ediv_of_nonneg _ (Int.natCast_nonneg _)]
  exact(Int.natCast_ediv _ _).symm
 simp only [hm,e1]
 rfl
theorem Zqr {k:IntKind} {x y:Int} (n r d:Nat) (hx:x=n) (hy:y=r) (hd:2 ^ r=d) (hr:r≤64) (k1:K (one (.int .u64 ((n / d:Nat):Int)))):AskB .shr T ox oy (.int .u64 x) (.int k y) K:=by
 subst hx hy hd
 exact⟨_,⟨_,rfl,rfl,Zmw T ox oy k n r hr⟩,k1⟩
end
end Go.Proofs.YtiekmbmgpachpaaGreatDoor.eng
namespace Go.Proofs.YtiekmbmgpachpaaGreatDoor.eng
open Go.RowKit num mem seg q held ratA ratB ratC ratD ratE vars ratF prf
section
variable {K : AV → Prop}
def bsZ (l:List KC) (c:KC):Nat:=(l.filter fun x=>decide (ordZ x c< 0)).length
theorem Zop {l:List KC} {c:KC} {a:Nat} (ha:a≤l.length) (h1:∀ i x,i< a→l[i]? =some x→ordZ x c< 0) (h2:∀ i x,a≤i→l[i]? =some x→¬ ordZ x c< 0):bsZ l c=a:=by
 have e:l=l.take a++l.drop a:=(List.take_append_drop a l).symm
 unfold bsZ
 rw [e,List.filter_append,List.filter_eq_self.2 ?_,List.filter_eq_nil_iff.2 ?_,List.append_nil,List.length_take]
 ·omega
 ·intro x hx
  obtain⟨i,hi⟩:=List.getElem?_of_mem hx
  rw [List.getElem?_drop] at hi
  simpa using h2 (a+i) x (by omega) hi
 ·intro x hx
  obtain⟨i,hi⟩:=List.getElem?_of_mem hx
  have hia:i< a:=by
   rcases Nat.lt_or_ge i a with g|g
   ·exact g
   ·rw [List.getElem?_eq_none (by rw [List.length_take];omega)] at hi;simp at hi
  rw [List.getElem?_take_of_lt hia] at hi
  exact decide_eq_true (h1 i x hia hi)
theorem Zrb {l:List KC} {c x:KC} {m:Nat} (hs:l.Pairwise kcLt) (hx:l[m]? =some x) (h:ordZ x c< 0):∀ i y,i< m+1→l[i]? =some y→ordZ y c< 0:=by
 intro i y hi hy
 by_cases e:i=m
 ·subst e;rw [hx] at hy;rw [← Option.some.inj hy];exact h
 ·exact Zac.2 (Zbq (ZhJ hs (show i< m by omega) hy hx) (Zac.1 h))
theorem ZpF {l:List KC} {c x:KC} {m:Nat} (hs:l.Pairwise kcLt) (hx:l[m]? =some x) (h:¬ ordZ x c< 0):∀ i y,m≤i→l[i]? =some y→¬ ordZ y c< 0:=by
 intro i y hi hy g
 by_cases e:i=m
 ·subst e;rw [hx] at hy;rw [← Option.some.inj hy] at g;exact h g
 ·exact h (Zac.2 (Zbq (ZhJ hs (show m< i by omega) hx hy) (Zac.1 g)))
theorem Zra {l:List KC} {c x:KC} {a:Nat} (hs:l.Pairwise kcLt) (hx:l[a]? =some x) (h1:∀ i x,i< a→l[i]? =some x→ordZ x c< 0) (h2:∀ i x,a≤i→l[i]? =some x→¬ ordZ x c< 0):decide (c∈l)=(ordZ x c==0):=by
 rw [Bool.eq_iff_iff]
 simp only [decide_eq_true_eq,beq_iff_eq]
 constructor
 ·intro hc
  obtain⟨i,hi⟩:=List.getElem?_of_mem hc
  rcases Nat.lt_trichotomy i a with g|g|g
  ·have:=h1 i c g hi;rw [Zac] at this;exact absurd this ZeM
  ·subst g;rw [hx] at hi;rw [Option.some.inj hi];exact ZkP.2 rfl
  ·exact absurd (Zac.2 (ZhJ hs g hx hi)) (h2 a x (Nat.le_refl _) hx)
 ·intro h
  rw [← ZkP.1 h];exact List.mem_of_getElem? hx
theorem ZrH {l:List KC} {c:KC} {a:Nat} (ha:l.length≤a) (h1:∀ i x,i< a→l[i]? =some x→ordZ x c< 0):decide (c∈l)=false:=by
 refine decide_eq_false fun hc=> ?_
 obtain⟨i,hi⟩:=List.getElem?_of_mem hc
 have hil:=(List.getElem?_eq_some_iff.1 hi).1
 have:=h1 i c (by omega) hi
 rw [Zac] at this;exact ZeM this
theorem ZeX (l:List KC) (c:KC) (hs0:l.Pairwise kcLt) (hn:l.length≤1048576):Spec Tryz.prog Tab 101 [.val (.one (.d (.list (List.map kcD l)))),cell c.1 c.2,fv 98] (.tup [.one (.d (.v (.int .i64 ((bsZ l c:Int))))),.one (.d (.v (.bool (decide (c∈l)))))]):=by
 have hL:(List.map kcD l).length=l.length:=List.length_map ..
 refine Zd Tryz.func101 rfl rfl Tryz.ntmps101 rfl (by kernel_rfl) rfl rfl ?_
 refine⟨Nat×Nat,fun (a,b)=> [(0,.val (.one (.d (.list (List.map kcD l))))),(2,fv 98),(4,.val (.one (.ptr 4 0))),(8,int ((List.map kcD l).length:Int)),(9,int (a:Int)),(10,int (b:Int))],
  fun (a,b)=> [(4,.var 69 [.d (.v (.int .i64 (c.1))),.d (.v (.int .i64 (c.2)))])],fun (a,b)=>a≤b∧b≤l.length∧(∀ i x,i< a→l[i]? =some x→ordZ x c< 0)∧(∀ i x,b≤i→l[i]? =some x→¬ ordZ x c< 0),fun (a,b)=>b - a,(0,l.length),?_,⟨Nat.zero_le _,Nat.le_refl _,fun i x h=>by omega,fun i x h hx=>by have:=(List.getElem?_eq_some_iff.1 hx).1;omega⟩,fun s hs=> ?_⟩
 ·constructor<;>(repeat' (first|exact rfl|exact True.intro|exact⟨_,_,rfl⟩|exact(by decide)|apply And.intro))
  all_goals first|exact congrArg (fun n:Int=>D.v (.int .i64 n)) (by omega)|exact congrArg (fun n:Int=>D.v (.int .i64 n)) (by rw [wrap64 _ (by omega) (by omega)];omega)|(simp;done)
 obtain⟨a,b⟩:=s
 obtain⟨g1,g2,g3,g4⟩:=hs
 refine⟨fun e1=> ?_,fun e1=> ?_⟩
 ·have f17:(a:Int)< (b:Int):=of_decide_eq_true e1
  refine Zlj (k':= .u64) (by kernel_rfl) (by kernel_rfl) ((a+b:Nat):Int) (by rw [wrap64 _ (by omega) (by omega),bwz64 (by omega) (by omega)];omega) ?_
  refine Zqr (a+b) 1 2 rfl rfl (by decide) (by decide) ?_
  refine Zlj (k':= .i64) (by kernel_rfl) (by kernel_rfl) (((a+b) / 2:Nat):Int) (by rw [wrap64 _ (by omega) (by omega)]) ?_
  refine get_ex (l:=l) (i:=((a+b) / 2)) (by first|omega|exact Nat.mod_lt _ (by omega)) fun x27 hx27=> ?_
  refine k_ix ((a+b) / 2) [D.v (.int .i64 (x27.1)),D.v (.int .i64 (x27.2))] (by first|rfl|omega|(rw [wrap64 _ (by omega) (by omega)];omega)|(rw [wrap64 _ (by omega) (by omega)];split<;>omega)) (Zj hx27) rfl ?_
  refine use (ZbF x27 c) rfl ?_
  refine⟨by kernel_rfl,?_⟩
  refine⟨fun e2=> ?_,fun e2=> ?_⟩
  ·have f31:ordZ x27 c< 0:=of_decide_eq_true e2
   refine⟨((a+b) / 2+1,b),⟨by omega,by omega,Zrb hs0 hx27 f31,g4⟩,by simp only;omega,?_⟩
   constructor<;>(repeat' (first|exact rfl|exact True.intro|apply And.intro))
   all_goals first
    |exact congrArg (fun n:Int=>D.v (.int .i64 n)) (by rw [wrap64 _ (by omega) (by omega)];omega)
    |exact congrArg (fun n:Int=>D.v (.int .i64 n)) (by omega)
  ·have f31:¬ (ordZ x27 c< 0):=of_decide_eq_false e2
   refine⟨(a,(a+b) / 2),⟨by omega,by omega,g3,ZpF hs0 hx27 f31⟩,by simp only;omega,?_⟩
   constructor<;>(repeat' (first|exact rfl|exact True.intro|apply And.intro))
   all_goals first
    |exact congrArg (fun n:Int=>D.v (.int .i64 n)) (by rw [wrap64 _ (by omega) (by omega)];omega)
    |exact congrArg (fun n:Int=>D.v (.int .i64 n)) (by omega)
 ·have f17:¬ ((a:Int)< (b:Int)):=of_decide_eq_false e1
  refine fork (fun e3=> ?_) (fun e3=> ?_)
  ·have f39:(a:Int)< ((List.map kcD l).length:Int):=of_decide_eq_true e3
   refine get_ex (l:=l) (i:=a) (by first|omega|exact Nat.mod_lt _ (by omega)) fun x43 hx43=> ?_
   refine k_ix a [D.v (.int .i64 (x43.1)),D.v (.int .i64 (x43.2))] (by first|rfl|omega|(rw [wrap64 _ (by omega) (by omega)];omega)|(rw [wrap64 _ (by omega) (by omega)];split<;>omega)) (Zj hx43) rfl ?_
   refine use (ZbF x43 c) rfl ?_
   refine⟨by kernel_rfl,?_⟩
   refine Eq.trans (b:= .tup [.one (.d (.v (.int .i64 ((a:Int))))),.one (.d (.v (.bool (ordZ x43 c==0))))]) ?_ rfl
   obtain rfl:a=b:=by omega
   rw [Zop g2 g3 g4]
   rw [Zra hs0 hx43 g3 g4]
  ·have f39:¬ ((a:Int)< ((List.map kcD l).length:Int)):=of_decide_eq_false e3
   refine⟨by kernel_rfl,?_⟩
   refine Eq.trans (b:= .tup [.one (.d (.v (.int .i64 ((a:Int))))),.one (.d (.v (.bool (false))))]) ?_ rfl
   obtain rfl:a=b:=by omega
   rw [Zop g2 g3 g4]
   rw [ZrH (by omega) g3]
theorem Zdi (l:List KC) (c:KC) (hs0:l.Pairwise kcLt) (hn:l.length≤1048576):Spec Tryz.prog Tab 57 [.val (.one (.d (.list (List.map kcD l)))),cell c.1 c.2] (bool (decide (c∈l))):=by
 refine Zd Tryz.func57 rfl rfl Tryz.ntmps57 rfl (by kernel_rfl) rfl rfl ?_
 refine use (ZeX l c (by assumption) (by assumption)) rfl ?_
 refine Eq.trans (b:=bool (decide (c∈l))) ?_ rfl
 rfl
end
end Go.Proofs.YtiekmbmgpachpaaGreatDoor.eng
namespace Go.Proofs.YtiekmbmgpachpaaGreatDoor.eng
open Go.RowKit num mem seg q held ratA ratB ratC ratD ratE vars ratF prf
section
variable {K : AV → Prop}
def fiZ (p:KC→Bool) (l:List KC):Int:=match l.findIdx? p with
 |some i=>(i:Int)
 |none=> -1
theorem Zim {p:KC→Bool} {l:List KC} {i:Nat} {x:KC} (hx:l[i]? =some x) (h:p x=true) (h1:∀ (j:Nat) (y:KC),j< i→l[j]? =some y→p y=false):fiZ p l=(i:Int):=by
 have:l.findIdx? p=some i:=by
  rw [List.findIdx?_eq_some_iff_getElem]
  obtain⟨hi,rfl⟩:=List.getElem?_eq_some_iff.1 hx
  exact⟨hi,h,fun j hj=>by have:=h1 j _ hj (List.getElem?_eq_getElem (by omega));rw [this];decide⟩
 unfold fiZ;rw [this]
theorem Zil {p:KC→Bool} {l:List KC} (h:∀ (j:Nat) (y:KC),l[j]? =some y→p y=false):fiZ p l=-1:=by
 have:l.findIdx? p=none:=by
  rw [List.findIdx?_eq_none_iff]
  intro x hx
  obtain⟨j,hj⟩:=List.getElem?_of_mem hx
  rw [h j x hj]
 unfold fiZ;rw [this]
theorem ZaM (p:KC→Bool) (l:List KC):(fiZ p l=-1∧∀ x,x∈l→p x=false)∨∃ (i:Nat) (x:KC),fiZ p l=(i:Int)∧l[i]? =some x∧p x=true∧∀ (j:Nat) (y:KC),j< i→l[j]? =some y→p y=false:=by
 unfold fiZ
 cases h:l.findIdx? p with
 |none=>exact .inl ⟨rfl,fun x hx=>by have:=List.findIdx?_eq_none_iff.1 h x hx;simpa using this⟩
 |some i=>
  obtain⟨hi,h1,h2⟩:=List.findIdx?_eq_some_iff_getElem.1 h
  exact .inr ⟨i,l[i],rfl,List.getElem?_eq_getElem hi,h1,fun j y hj hy=>by
   obtain⟨hj2,rfl⟩:=List.getElem?_eq_some_iff.1 hy
   have:=h2 j hj;simpa using this⟩
def dF (p:KC→Bool) (l:List KC) (m:Nat):List KC:=(l.take m).filter fun c=> !p c
def dY (p:KC→Bool) (l:List KC) (m:Nat):List KC:=dF p l m++l.drop (dF p l m).length
theorem Zq3 (p:KC→Bool) (l:List KC) (m:Nat):(dF p l m).length≤m:=by
 have:=List.length_filter_le (fun c=> !p c) (l.take m);unfold dF;rw [List.length_take] at this;omega
theorem Zq2 (p:KC→Bool) (l:List KC) (m:Nat):(dF p l m).length≤l.length:=by
 have:=List.length_filter_le (fun c=> !p c) (l.take m);unfold dF;rw [List.length_take] at this;omega
theorem Zf8 {p:KC→Bool} {l:List KC} {m:Nat} {x:KC} (hx:l[m]? =some x) (h:p x=false):dF p l (m+1)=dF p l m++ [x]:=by
 unfold dF;rw [List.take_add_one,hx,List.filter_append];simp [h]
theorem Zg8 {p:KC→Bool} {l:List KC} {m:Nat} {x:KC} (hx:l[m]? =some x) (h:p x=true):dF p l (m+1)=dF p l m:=by
 unfold dF;rw [List.take_add_one,hx,List.filter_append];simp [h]
theorem Zea {p:KC→Bool} {l:List KC}:∀ {m:Nat},m≤l.length→(∀ (j:Nat) (y:KC),j< m→l[j]? =some y→p y=false)→dF p l m=l.take m
 |0,_,_=>rfl
 |m+1,h,hh=>by
  have hx:l[m]? =some (l[m]'(by omega)):=List.getElem?_eq_getElem (by omega)
  rw [Zf8 hx (hh m _ (by omega) hx),Zea (by omega) fun j y h1 h2=>hh j y (by omega) h2,List.take_add_one,hx];rfl
theorem Zpr {p:KC→Bool} {l:List KC} {i:Nat} {x:KC} (hx:l[i]? =some x) (h:p x=true):∀ m,i< m→(dF p l m).length< m
 |0,h=>by omega
 |m+1,hm=>by
  by_cases e:i=m
  ·subst e;rw [Zg8 hx h];have:=Zq3 p l i;omega
  ·have ih:=Zpr hx h m (by omega)
   cases hy:l[m]? with
   |none=>unfold dF at ih ⊢;rw [List.take_add_one,hy];simp only [Option.toList_none,List.append_nil];omega
   |some y=>
    cases hp:p y with
    |true=>rw [Zg8 hy hp];omega
    |false=>rw [Zf8 hy hp,List.length_append];simp;omega
theorem Zix (p:KC→Bool) (l:List KC) (m:Nat):(dY p l m).length=l.length:=by
 have:=Zq2 p l m
 simp only [dY,List.length_append,List.length_drop];omega
theorem Zq1 {p:KC→Bool} {l:List KC} {m i:Nat} (h:(dF p l m).length≤i):(dY p l m)[i]? =l[i]? :=by
 unfold dY
 rw [List.getElem?_append_right h,List.getElem?_drop]
 congr 1;omega
theorem ZlQ {p:KC→Bool} {l:List KC} {m:Nat} (hm:m≤l.length) (h:∀ (j:Nat) (y:KC),j< m→l[j]? =some y→p y=false):dY p l m=l:=by
 unfold dY
 rw [Zea hm h,List.length_take,Nat.min_eq_left hm,List.take_append_drop]
theorem Znp {p:KC→Bool} {l:List KC} {m:Nat} {x:KC} (hx:l[m]? =some x) (h:p x=true):dY p l (m+1)=dY p l m:=by unfold dY;rw [Zg8 hx h]
theorem Zom {p:KC→Bool} {l:List KC} {m:Nat} {x:KC} (hx:l[m]? =some x) (h:p x=false):(dY p l m).set (dF p l m).length x=dY p l (m+1):=by
 have hk:=Zq3 p l m
 have hm:m< l.length:=(List.getElem?_eq_some_iff.1 hx).1
 unfold dY
 rw [Zf8 hx h,List.set_append_right _ _ (Nat.le_refl _),Nat.sub_self,List.length_append,List.length_singleton,List.append_assoc]
 congr 1
 obtain⟨y,r,e⟩:∃ y r,l.drop (dF p l m).length=y :: r:=by
  cases e:l.drop (dF p l m).length with
  |nil=>have:=congrArg List.length e;rw [List.length_drop] at this;simp at this;omega
  |cons y r=>exact⟨y,r,rfl⟩
 rw [e,List.set_cons_zero,← List.drop_drop,e];rfl
theorem Zb7 (p:KC→Bool) (l:List KC):dF p l l.length=l.filter fun c=> !p c:=by unfold dF;rw [List.take_length]
def noP (B:List KC) (c:KC):Bool:= !decide (c∈B)
def inP (B:List KC) (c:KC):Bool:=decide (c∈B)
theorem ZhU (B:List KC) (c:KC) (hB:B.Pairwise kcLt) (hBn:B.length≤1048576):Spec Tryz.prog Tab 67 [cell c.1 c.2,.val (.one (.ref [D.list (List.map kcD B)]))] (bool (noP B c)):=by
 refine Zd Tryz.func67 rfl rfl Tryz.ntmps67 rfl (by kernel_rfl) rfl rfl ?_
 refine use (Zdi B c hB hBn) rfl ?_
 refine Eq.trans (b:=bool (!(decide (c∈B)))) ?_ rfl
 rfl
theorem ZhX (B:List KC) (c:KC) (hB:B.Pairwise kcLt) (hBn:B.length≤1048576):Spec Tryz.prog Tab 68 [cell c.1 c.2,.val (.one (.ref [D.list (List.map kcD B)]))] (bool (inP B c)):=by
 refine Zd Tryz.func68 rfl rfl Tryz.ntmps68 rfl (by kernel_rfl) rfl rfl ?_
 refine use (Zdi B c hB hBn) rfl ?_
 refine Eq.trans (b:=bool (decide (c∈B))) ?_ rfl
 rfl
theorem Zmi (B:List KC) (c:KC) (hB:B.Pairwise kcLt) (hBn:B.length≤1048576):Spec Tryz.prog Tab 56 [cell c.1 c.2,.val (.one (.ref [D.list (List.map kcD B)]))] (bool (noP B c)):=by
 refine Zd Tryz.func56 rfl rfl Tryz.ntmps56 rfl (by kernel_rfl) rfl rfl ?_
 refine use (Zdi B c hB hBn) rfl ?_
 refine Eq.trans (b:=bool (!(decide (c∈B)))) ?_ rfl
 rfl
theorem Zpb (B l:List KC) (hB:B.Pairwise kcLt) (hBn:B.length≤1048576) (hn:l.length≤1048576):SpecL Tryz.prog Tab 100 [.val (.one (.row 1000 0)),.val (.one (.d (.fn 67 [[D.list (List.map kcD B)]])))] 69 2 (List.map kcD l) (int (fiZ (noP B) l)):=by
 have hL:(List.map kcD l).length=l.length:=List.length_map ..
 refine fn_L 0 [] Tryz.func100 rfl rfl Tryz.ntmps100 rfl (by kernel_rfl) rfl rfl rfl ?_
 refine⟨Nat,fun i=> [(0,.val (.one (.row 1000 0))),(1,.val (.one (.d (.fn 67 [[D.list (List.map kcD B)]])))),(7,int ((List.map kcD l).length:Int)),(8,int (i:Int))],
  fun i=> [(1000,.row 69 2 0 (List.map kcD l) true)],fun i=>i≤l.length∧∀ (j:Nat) (y:KC),j< i→l[j]? =some y→noP B y=false,fun i=>l.length - i,0,?_,⟨Nat.zero_le _,fun j y h=>by omega⟩,fun i hs=> ?_⟩
 ·constructor<;>(repeat' (first|exact rfl|exact True.intro|exact⟨_,_,rfl⟩|exact(by decide)|apply And.intro))
  all_goals first|exact congrArg (fun n:Int=>D.v (.int .i64 n)) (by omega)|exact congrArg (fun n:Int=>D.v (.int .i64 n)) (by rw [wrap64 _ (by omega) (by omega)];omega)|(simp;done)
 obtain⟨g1,g2⟩:=hs
 refine⟨fun e1=> ?_,fun e1=> ?_⟩
 ·have f9:(i:Int)< ((List.map kcD l).length:Int):=of_decide_eq_true e1
  refine k_at_own' i (by first|rfl|omega|(rw [wrap64 _ (by omega) (by omega)];omega)|(rw [wrap64 _ (by omega) (by omega)];split<;>omega)) (by first|omega|(simp only [List.length_set];omega)|(simp;omega)) ?_
  refine get_ex (l:=l) (i:=i) (by first|omega|exact Nat.mod_lt _ (by omega)) fun x15 hx15=> ?_
  refine Z0 [D.v (.int .i64 (x15.1)),D.v (.int .i64 (x15.2))] _ (Zj hx15) rfl rfl ?_
  refine use (ZhU B x15 hB hBn) rfl ?_
  refine⟨fun e2=> ?_,fun e2=> ?_⟩
  ·have f16:noP B x15=true:=e2
   refine⟨Eq.trans (b:=int (i:Int)) ?_ rfl,⟨_,rfl,rfl⟩⟩
   rw [Zim hx15 f16 g2]
  ·have f16:¬ (noP B x15=true):=(Bool.eq_false_iff.1 e2)
   refine⟨i+1,⟨by omega,fun j y hj hy=>by
    by_cases e:j=i
    ·subst e;rw [hx15] at hy;rw [← Option.some.inj hy];exact Bool.eq_false_iff.2 f16
    ·exact g2 j y (by omega) hy⟩,by simp only;omega,?_⟩
   constructor<;>(repeat' (first|exact rfl|exact True.intro|apply And.intro))
   all_goals first
    |exact congrArg (fun n:Int=>D.v (.int .i64 n)) (by rw [wrap64 _ (by omega) (by omega)];omega)
    |exact congrArg (fun n:Int=>D.v (.int .i64 n)) (by omega)
 ·have f9:¬ ((i:Int)< ((List.map kcD l).length:Int)):=of_decide_eq_false e1
  refine⟨Eq.trans (b:=int (-1)) ?_ rfl,⟨_,rfl,rfl⟩⟩
  rw [Zil fun j y hy=>g2 j y (by have:=(List.getElem?_eq_some_iff.1 hy).1;omega) hy]
theorem Zpc (B l:List KC) (hB:B.Pairwise kcLt) (hBn:B.length≤1048576) (hn:l.length≤1048576):SpecL Tryz.prog Tab 100 [.val (.one (.row 1000 0)),.val (.one (.d (.fn 68 [[D.list (List.map kcD B)]])))] 69 2 (List.map kcD l) (int (fiZ (inP B) l)):=by
 have hL:(List.map kcD l).length=l.length:=List.length_map ..
 refine fn_L 0 [] Tryz.func100 rfl rfl Tryz.ntmps100 rfl (by kernel_rfl) rfl rfl rfl ?_
 refine⟨Nat,fun i=> [(0,.val (.one (.row 1000 0))),(1,.val (.one (.d (.fn 68 [[D.list (List.map kcD B)]])))),(7,int ((List.map kcD l).length:Int)),(8,int (i:Int))],
  fun i=> [(1000,.row 69 2 0 (List.map kcD l) true)],fun i=>i≤l.length∧∀ (j:Nat) (y:KC),j< i→l[j]? =some y→inP B y=false,fun i=>l.length - i,0,?_,⟨Nat.zero_le _,fun j y h=>by omega⟩,fun i hs=> ?_⟩
 ·constructor<;>(repeat' (first|exact rfl|exact True.intro|exact⟨_,_,rfl⟩|exact(by decide)|apply And.intro))
  all_goals first|exact congrArg (fun n:Int=>D.v (.int .i64 n)) (by omega)|exact congrArg (fun n:Int=>D.v (.int .i64 n)) (by rw [wrap64 _ (by omega) (by omega)];omega)|(simp;done)
 obtain⟨g1,g2⟩:=hs
 refine⟨fun e1=> ?_,fun e1=> ?_⟩
 ·have f9:(i:Int)< ((List.map kcD l).length:Int):=of_decide_eq_true e1
  refine k_at_own' i (by first|rfl|omega|(rw [wrap64 _ (by omega) (by omega)];omega)|(rw [wrap64 _ (by omega) (by omega)];split<;>omega)) (by first|omega|(simp only [List.length_set];omega)|(simp;omega)) ?_
  refine get_ex (l:=l) (i:=i) (by first|omega|exact Nat.mod_lt _ (by omega)) fun x15 hx15=> ?_
  refine Z0 [D.v (.int .i64 (x15.1)),D.v (.int .i64 (x15.2))] _ (Zj hx15) rfl rfl ?_
  refine use (ZhX B x15 hB hBn) rfl ?_
  refine⟨fun e2=> ?_,fun e2=> ?_⟩
  ·have f16:inP B x15=true:=e2
   refine⟨Eq.trans (b:=int (i:Int)) ?_ rfl,⟨_,rfl,rfl⟩⟩
   rw [Zim hx15 f16 g2]
  ·have f16:¬ (inP B x15=true):=(Bool.eq_false_iff.1 e2)
   refine⟨i+1,⟨by omega,fun j y hj hy=>by
    by_cases e:j=i
    ·subst e;rw [hx15] at hy;rw [← Option.some.inj hy];exact Bool.eq_false_iff.2 f16
    ·exact g2 j y (by omega) hy⟩,by simp only;omega,?_⟩
   constructor<;>(repeat' (first|exact rfl|exact True.intro|apply And.intro))
   all_goals first
    |exact congrArg (fun n:Int=>D.v (.int .i64 n)) (by rw [wrap64 _ (by omega) (by omega)];omega)
    |exact congrArg (fun n:Int=>D.v (.int .i64 n)) (by omega)
 ·have f9:¬ ((i:Int)< ((List.map kcD l).length:Int)):=of_decide_eq_false e1
  refine⟨Eq.trans (b:=int (-1)) ?_ rfl,⟨_,rfl,rfl⟩⟩
  rw [Zil fun j y hy=>g2 j y (by have:=(List.getElem?_eq_some_iff.1 hy).1;omega) hy]
theorem Zpa (B l:List KC) (hB:B.Pairwise kcLt) (hBn:B.length≤1048576) (hn:l.length≤1048576):Spec Tryz.prog Tab 100 [.val (.one (.d (.list (List.map kcD l)))),.val (.one (.d (.fn 56 [[D.list (List.map kcD B)]])))] (int (fiZ (noP B) l)):=by
 have hL:(List.map kcD l).length=l.length:=List.length_map ..
 refine Zd Tryz.func100 rfl rfl Tryz.ntmps100 rfl (by kernel_rfl) rfl rfl ?_
 refine⟨Nat,fun i=> [(0,.val (.one (.d (.list (List.map kcD l))))),(1,.val (.one (.d (.fn 56 [[D.list (List.map kcD B)]])))),(7,int ((List.map kcD l).length:Int)),(8,int (i:Int))],
  fun i=> [],fun i=>i≤l.length∧∀ (j:Nat) (y:KC),j< i→l[j]? =some y→noP B y=false,fun i=>l.length - i,0,?_,⟨Nat.zero_le _,fun j y h=>by omega⟩,fun i hs=> ?_⟩
 ·constructor<;>(repeat' (first|exact rfl|exact True.intro|exact⟨_,_,rfl⟩|exact(by decide)|apply And.intro))
  all_goals first|exact congrArg (fun n:Int=>D.v (.int .i64 n)) (by omega)|exact congrArg (fun n:Int=>D.v (.int .i64 n)) (by rw [wrap64 _ (by omega) (by omega)];omega)|(simp;done)
 obtain⟨g1,g2⟩:=hs
 refine⟨fun e1=> ?_,fun e1=> ?_⟩
 ·have f9:(i:Int)< ((List.map kcD l).length:Int):=of_decide_eq_true e1
  refine get_ex (l:=l) (i:=i) (by first|omega|exact Nat.mod_lt _ (by omega)) fun x14 hx14=> ?_
  refine k_ix i [D.v (.int .i64 (x14.1)),D.v (.int .i64 (x14.2))] (by first|rfl|omega|(rw [wrap64 _ (by omega) (by omega)];omega)|(rw [wrap64 _ (by omega) (by omega)];split<;>omega)) (Zj hx14) rfl ?_
  refine use (Zmi B x14 hB hBn) rfl ?_
  refine⟨fun e2=> ?_,fun e2=> ?_⟩
  ·have f16:noP B x14=true:=e2
   refine Eq.trans (b:=int (i:Int)) ?_ rfl
   rw [Zim hx14 f16 g2]
  ·have f16:¬ (noP B x14=true):=(Bool.eq_false_iff.1 e2)
   refine⟨i+1,⟨by omega,fun j y hj hy=>by
    by_cases e:j=i
    ·subst e;rw [hx14] at hy;rw [← Option.some.inj hy];exact Bool.eq_false_iff.2 f16
    ·exact g2 j y (by omega) hy⟩,by simp only;omega,?_⟩
   constructor<;>(repeat' (first|exact rfl|exact True.intro|apply And.intro))
   all_goals first
    |exact congrArg (fun n:Int=>D.v (.int .i64 n)) (by rw [wrap64 _ (by omega) (by omega)];omega)
    |exact congrArg (fun n:Int=>D.v (.int .i64 n)) (by omega)
 ·have f9:¬ ((i:Int)< ((List.map kcD l).length:Int)):=of_decide_eq_false e1
  refine Eq.trans (b:=int (-1)) ?_ rfl
  rw [Zil fun j y hy=>g2 j y (by have:=(List.getElem?_eq_some_iff.1 hy).1;omega) hy]
end
end Go.Proofs.YtiekmbmgpachpaaGreatDoor.eng
namespace Go.Proofs.YtiekmbmgpachpaaGreatDoor.eng
open Go.RowKit num mem seg q held ratA ratB ratC ratD ratE vars ratF prf
section
variable {K : AV → Prop}
set_option maxHeartbeats 4000000 in
theorem Zpp (B l:List KC) (hB:B.Pairwise kcLt) (hBn:B.length≤1048576) (hn:l.length≤1048576):SpecT Tryz.prog Tab 66 [.val (.one (.row 1000 0)),.val (.one (.d (.fn 67 [[D.list (List.map kcD B)]])))] 69 2 (List.map kcD l) 69 2 (List.map kcD (l.filter fun c=> !(noP B) c)):=by
 have hL:(List.map kcD l).length=l.length:=List.length_map ..
 refine fn_T [100010] Tryz.func66 rfl rfl Tryz.ntmps66 rfl (by kernel_rfl) rfl rfl ?_
 refine⟨_,⟨rfl,Zpb B l hB hBn hn⟩,?_⟩
 refine⟨fun e1=> ?_,fun e1=> ?_⟩
 ·have f12:fiZ (noP B) l=-1:=ZaN e1
  rw [← Zb7,Zea (Nat.le_refl _) fun j y _ hy=> ?_,List.take_length]
  ·exact rfl
  ·exact((ZaM (noP B) l).elim (fun h=>h.2 y (List.mem_of_getElem? hy)) (fun h=>by obtain⟨i,x,g,_⟩:=h;omega))
 ·have f12:¬ (fiZ (noP B) l=-1):=ZaO e1
  obtain⟨i0,x0,hf0,h1,h2,h3⟩:=(ZaM (noP B) l).resolve_left fun h=>f12 h.1
  have hi0:=(List.getElem?_eq_some_iff.1 h1).1
  have he0:=Zea (p:=(noP B)) (m:=i0) (by omega) h3
  have hct:=(Znp (p:=(noP B)) h1 h2).trans (ZlQ (p:=(noP B)) (m:=i0) (by omega) h3)
  have he1:(dF (noP B) l (i0+1)).length=i0:=by rw [Zg8 h1 h2,he0,List.length_take];omega
  refine⟨Nat,fun m=> [(0,.val (.one (.row 1000 0))),(1,.val (.one (.d (.fn 67 [[D.list (List.map kcD B)]])))),(5,int ((dF (noP B) l m).length:Int)),(6,int (m:Int))],
   fun m=> [(1000,.row 69 2 0 (List.map kcD (dY (noP B) l m)) true)],fun m=>i0< m∧m≤l.length,fun m=>l.length - m,(i0+1),?_,⟨by omega,by omega⟩,fun m hs=> ?_⟩
  ·constructor<;>(repeat' (first|exact rfl|exact True.intro|exact⟨_,_,rfl⟩|exact(by decide)|apply And.intro))
   all_goals first
    |exact congrArg (fun n:Int=>D.v (.int .i64 n)) (by rw [he1];omega)
    |exact congrArg (List.map kcD) hct
    |exact congrArg (List.map kcD) hct.symm
    |(rw [hct];done)
    |exact congrArg (fun n:Int=>D.v (.int .i64 n)) (by rw [hf0,wrap64 _ (by omega) (by omega)];omega)
  obtain⟨m1,m2⟩:=hs
  have hkl:=Zpr (p:=(noP B)) h1 h2 m m1
  have hdl:(List.map kcD (dY (noP B) l m)).length=l.length:=by rw [List.length_map,Zix]
  have hdl2:=Zix (noP B) l m
  have cX:∀ (q:Nat) {x:KC},(dF (noP B) l m).length≤q→l[q]? =some x→(dY (noP B) l m)[q]? =some x:=fun q x h1 h2=>by rw [Zq1 h1];exact h2
  refine⟨fun e2=> ?_,fun e2=> ?_⟩
  ·have f19:(m:Int)< ((List.map kcD (dY (noP B) l m)).length:Int):=of_decide_eq_true e2
   refine k_at_own' m (by first|rfl|omega|(rw [wrap64 _ (by omega) (by omega)];omega)|(rw [wrap64 _ (by omega) (by omega)];split<;>omega)) (by first|omega|(simp only [List.length_set];omega)|(simp;omega)) ?_
   refine get_ex (l:=l) (i:=m) (by first|omega|exact Nat.mod_lt _ (by omega)) fun x25 hx25=> ?_
   refine Z0 [D.v (.int .i64 (x25.1)),D.v (.int .i64 (x25.2))] _ (Zj (cX _ (by omega) hx25)) rfl rfl ?_
   refine use (ZhU B x25 hB hBn) rfl ?_
   refine⟨fun e3=> ?_,fun e3=> ?_⟩
   ·have f29:¬ (noP B x25=true):=(Bool.eq_false_iff.1 (ZoQ e3))
    refine k_at_own' ((((dF (noP B) l m).length:Int)).toNat) (by first|rfl|omega|(rw [wrap64 _ (by omega) (by omega)];omega)|(rw [wrap64 _ (by omega) (by omega)];split<;>omega)) (by first|omega|(simp only [List.length_set];omega)|(simp;omega)) ?_
    refine⟨by first|omega|(simp only [List.length_set];omega)|(simp;omega),?_⟩
    have hfx:(noP B) x25=false:=Bool.eq_false_iff.2 f29
    have hkk:=Zf8 (p:=(noP B)) hx25 hfx
    have hcc:=Zom (p:=(noP B)) hx25 hfx
    refine⟨m+1,⟨by omega,by omega⟩,by simp only;omega,?_⟩
    constructor<;>(repeat' (first|exact rfl|exact True.intro|apply And.intro))
    all_goals first
     |(rw [← hcc,List.map_set];rfl)
     |exact congrArg (fun n:Int=>D.v (.int .i64 n)) (by rw [wrap64 _ (by omega) (by omega),hkk,List.length_append];simp)
     |exact congrArg (fun n:Int=>D.v (.int .i64 n)) (by rw [wrap64 _ (by omega) (by omega)];omega)
     |exact congrArg (fun n:Int=>D.v (.int .i64 n)) (by omega)
   ·have f29:¬ (¬ (noP B x25=true)):=fun hh=>hh ((ZoR e3))
    have g29:(noP B) x25=true:=Classical.not_not.1 f29
    have hkk:=Zg8 (p:=(noP B)) hx25 g29
    have hcc:=Znp (p:=(noP B)) hx25 g29
    refine⟨m+1,⟨by omega,by omega⟩,by simp only;omega,?_⟩
    constructor<;>(repeat' (first|exact rfl|exact True.intro|apply And.intro))
    all_goals first
     |(rw [hcc];done)
     |exact congrArg (fun n:Int=>D.v (.int .i64 n)) (by rw [hkk])
     |(rw [hkk];done)
     |exact congrArg (fun n:Int=>D.v (.int .i64 n)) (by rw [wrap64 _ (by omega) (by omega)];omega)
     |exact congrArg (fun n:Int=>D.v (.int .i64 n)) (by omega)
  ·have f19:¬ ((m:Int)< ((List.map kcD (dY (noP B) l m)).length:Int)):=of_decide_eq_false e2
   refine⟨_,⟨by first|omega|decide,by first|omega|(simp;omega)|simp,rfl⟩,?_⟩
   refine⟨⟨by first|omega|decide,by first|omega|(simp only [List.length_append,List.length_take,List.length_replicate,List.length_map];omega)|(simp;omega)|simp⟩,?_⟩
   obtain rfl:m=l.length:=by omega
   rw [← Zb7]
   exact congrArg (fun m=>Ob.row _ 2 _ m true) (by simp [dY])
set_option maxHeartbeats 4000000 in
theorem Zpq (B l:List KC) (hB:B.Pairwise kcLt) (hBn:B.length≤1048576) (hn:l.length≤1048576):SpecT Tryz.prog Tab 66 [.val (.one (.row 1000 0)),.val (.one (.d (.fn 68 [[D.list (List.map kcD B)]])))] 69 2 (List.map kcD l) 69 2 (List.map kcD (l.filter fun c=> !(inP B) c)):=by
 have hL:(List.map kcD l).length=l.length:=List.length_map ..
 refine fn_T [100010] Tryz.func66 rfl rfl Tryz.ntmps66 rfl (by kernel_rfl) rfl rfl ?_
 refine⟨_,⟨rfl,Zpc B l hB hBn hn⟩,?_⟩
 refine⟨fun e1=> ?_,fun e1=> ?_⟩
 ·have f12:fiZ (inP B) l=-1:=ZaN e1
  rw [← Zb7,Zea (Nat.le_refl _) fun j y _ hy=> ?_,List.take_length]
  ·exact rfl
  ·exact((ZaM (inP B) l).elim (fun h=>h.2 y (List.mem_of_getElem? hy)) (fun h=>by obtain⟨i,x,g,_⟩:=h;omega))
 ·have f12:¬ (fiZ (inP B) l=-1):=ZaO e1
  obtain⟨i0,x0,hf0,h1,h2,h3⟩:=(ZaM (inP B) l).resolve_left fun h=>f12 h.1
  have hi0:=(List.getElem?_eq_some_iff.1 h1).1
  have he0:=Zea (p:=(inP B)) (m:=i0) (by omega) h3
  have hct:=(Znp (p:=(inP B)) h1 h2).trans (ZlQ (p:=(inP B)) (m:=i0) (by omega) h3)
  have he1:(dF (inP B) l (i0+1)).length=i0:=by rw [Zg8 h1 h2,he0,List.length_take];omega
  refine⟨Nat,fun m=> [(0,.val (.one (.row 1000 0))),(1,.val (.one (.d (.fn 68 [[D.list (List.map kcD B)]])))),(5,int ((dF (inP B) l m).length:Int)),(6,int (m:Int))],
   fun m=> [(1000,.row 69 2 0 (List.map kcD (dY (inP B) l m)) true)],fun m=>i0< m∧m≤l.length,fun m=>l.length - m,(i0+1),?_,⟨by omega,by omega⟩,fun m hs=> ?_⟩
  ·constructor<;>(repeat' (first|exact rfl|exact True.intro|exact⟨_,_,rfl⟩|exact(by decide)|apply And.intro))
   all_goals first
    |exact congrArg (fun n:Int=>D.v (.int .i64 n)) (by rw [he1];omega)
    |exact congrArg (List.map kcD) hct
    |exact congrArg (List.map kcD) hct.symm
    |(rw [hct];done)
    |exact congrArg (fun n:Int=>D.v (.int .i64 n)) (by rw [hf0,wrap64 _ (by omega) (by omega)];omega)
  obtain⟨m1,m2⟩:=hs
  have hkl:=Zpr (p:=(inP B)) h1 h2 m m1
  have hdl:(List.map kcD (dY (inP B) l m)).length=l.length:=by rw [List.length_map,Zix]
  have hdl2:=Zix (inP B) l m
  have cX:∀ (q:Nat) {x:KC},(dF (inP B) l m).length≤q→l[q]? =some x→(dY (inP B) l m)[q]? =some x:=fun q x h1 h2=>by rw [Zq1 h1];exact h2
  refine⟨fun e2=> ?_,fun e2=> ?_⟩
  ·have f19:(m:Int)< ((List.map kcD (dY (inP B) l m)).length:Int):=of_decide_eq_true e2
   refine k_at_own' m (by first|rfl|omega|(rw [wrap64 _ (by omega) (by omega)];omega)|(rw [wrap64 _ (by omega) (by omega)];split<;>omega)) (by first|omega|(simp only [List.length_set];omega)|(simp;omega)) ?_
   refine get_ex (l:=l) (i:=m) (by first|omega|exact Nat.mod_lt _ (by omega)) fun x25 hx25=> ?_
   refine Z0 [D.v (.int .i64 (x25.1)),D.v (.int .i64 (x25.2))] _ (Zj (cX _ (by omega) hx25)) rfl rfl ?_
   refine use (ZhX B x25 hB hBn) rfl ?_
   refine⟨fun e3=> ?_,fun e3=> ?_⟩
   ·have f29:¬ (inP B x25=true):=(Bool.eq_false_iff.1 (ZoQ e3))
    refine k_at_own' ((((dF (inP B) l m).length:Int)).toNat) (by first|rfl|omega|(rw [wrap64 _ (by omega) (by omega)];omega)|(rw [wrap64 _ (by omega) (by omega)];split<;>omega)) (by first|omega|(simp only [List.length_set];omega)|(simp;omega)) ?_
    refine⟨by first|omega|(simp only [List.length_set];omega)|(simp;omega),?_⟩
    have hfx:(inP B) x25=false:=Bool.eq_false_iff.2 f29
    have hkk:=Zf8 (p:=(inP B)) hx25 hfx
    have hcc:=Zom (p:=(inP B)) hx25 hfx
    refine⟨m+1,⟨by omega,by omega⟩,by simp only;omega,?_⟩
    constructor<;>(repeat' (first|exact rfl|exact True.intro|apply And.intro))
    all_goals first
     |(rw [← hcc,List.map_set];rfl)
     |exact congrArg (fun n:Int=>D.v (.int .i64 n)) (by rw [wrap64 _ (by omega) (by omega),hkk,List.length_append];simp)
     |exact congrArg (fun n:Int=>D.v (.int .i64 n)) (by rw [wrap64 _ (by omega) (by omega)];omega)
     |exact congrArg (fun n:Int=>D.v (.int .i64 n)) (by omega)
   ·have f29:¬ (¬ (inP B x25=true)):=fun hh=>hh ((ZoR e3))
    have g29:(inP B) x25=true:=Classical.not_not.1 f29
    have hkk:=Zg8 (p:=(inP B)) hx25 g29
    have hcc:=Znp (p:=(inP B)) hx25 g29
    refine⟨m+1,⟨by omega,by omega⟩,by simp only;omega,?_⟩
    constructor<;>(repeat' (first|exact rfl|exact True.intro|apply And.intro))
    all_goals first
     |(rw [hcc];done)
     |exact congrArg (fun n:Int=>D.v (.int .i64 n)) (by rw [hkk])
     |(rw [hkk];done)
     |exact congrArg (fun n:Int=>D.v (.int .i64 n)) (by rw [wrap64 _ (by omega) (by omega)];omega)
     |exact congrArg (fun n:Int=>D.v (.int .i64 n)) (by omega)
  ·have f19:¬ ((m:Int)< ((List.map kcD (dY (inP B) l m)).length:Int)):=of_decide_eq_false e2
   refine⟨_,⟨by first|omega|decide,by first|omega|(simp;omega)|simp,rfl⟩,?_⟩
   refine⟨⟨by first|omega|decide,by first|omega|(simp only [List.length_append,List.length_take,List.length_replicate,List.length_map];omega)|(simp;omega)|simp⟩,?_⟩
   obtain rfl:m=l.length:=by omega
   rw [← Zb7]
   exact congrArg (fun m=>Ob.row _ 2 _ m true) (by simp [dY])
theorem Znq (B l:List KC) (hB:B.Pairwise kcLt) (hBn:B.length≤1048576) (hn:l.length≤1048576):Spec Tryz.prog Tab 55 [.val (.one (.d (.list (List.map kcD l)))),.val (.one (.d (.fn 56 [[D.list (List.map kcD B)]])))] (bool (decide (∃ c,c∈l∧¬ c∈B))):=by
 refine Zd Tryz.func55 rfl rfl Tryz.ntmps55 rfl (by kernel_rfl) rfl rfl ?_
 refine use (Zpa B l hB hBn hn) rfl ?_
 refine Eq.trans (b:=bool (decide (fiZ (noP B) l≥0))) ?_ rfl
 rw [show decide (fiZ (noP B) l≥0)=decide (∃ c,c∈l∧¬ c∈B) from decide_eq_decide.2 ?_]
 rcases ZaM (noP B) l with ⟨h,h2⟩|⟨i,x,h,h2,h3,_⟩
 ·rw [h];exact⟨fun g=>by omega,fun ⟨c,h3,h4⟩=>by have:=h2 c h3;unfold noP at this;simp at this;exact absurd this h4⟩
 ·rw [h];exact⟨fun _=>⟨x,List.mem_of_getElem? h2,by unfold noP at h3;simpa using h3⟩,fun _=>by omega⟩
theorem ZoW (a b:List KC) (B:List KC) (hB:B.Pairwise kcLt) (hBn:B.length≤1048576) (hsB:Spec Tryz.prog Tab 54 [.val (.one (.d (.list (List.map kcL [b]))))] (.val (.one (.d (.list (List.map kcD B)))))) (A:List KC) (hAn:A.length≤1048576) (hsA:SpecR Tryz.prog Tab 54 [.val (.one (.d (.list (List.map kcL [a]))))] 69 2 (List.map kcD A)):Spec Tryz.prog Tab 29 [.val (.one (.d (.list (List.map kcD a)))),.val (.one (.d (.list (List.map kcD b))))] (.val (.one (.d (.list (List.map kcD (A.filter fun c=> !noP B c)))))):=by
 refine Zcw [10,12] Tryz.func29 rfl rfl Tryz.ntmps29 rfl (by kernel_rfl) rfl rfl ?_
 refine use hsB rfl ?_
 refine⟨[(0,.val (.one (.d (.list (List.map kcD a))))),(3,.val (.one (.ref [D.list (List.map kcD B)])))], [],?_,?_⟩
 ·constructor<;>(repeat' (first|exact rfl|exact True.intro|exact⟨_,_,rfl⟩|exact(by decide)|apply And.intro))
 refine useN hsA ?_
 refine⟨_,_,_,Zpp B A hB hBn hAn,?_⟩
 refine Eq.trans (b:= .val (.one (.d (.list (List.map kcD (A.filter fun c=> !noP B c)))))) ?_ rfl
 rfl
theorem Zm4 (a b:List KC) (B:List KC) (hB:B.Pairwise kcLt) (hBn:B.length≤1048576) (hsB:Spec Tryz.prog Tab 54 [.val (.one (.d (.list (List.map kcL [b]))))] (.val (.one (.d (.list (List.map kcD B)))))) (A:List KC) (hAn:A.length≤1048576) (hsA:SpecR Tryz.prog Tab 54 [.val (.one (.d (.list (List.map kcL [a]))))] 69 2 (List.map kcD A)):Spec Tryz.prog Tab 30 [.val (.one (.d (.list (List.map kcD a)))),.val (.one (.d (.list (List.map kcD b))))] (.val (.one (.d (.list (List.map kcD (A.filter fun c=> !inP B c)))))):=by
 refine Zcw [10,12] Tryz.func30 rfl rfl Tryz.ntmps30 rfl (by kernel_rfl) rfl rfl ?_
 refine use hsB rfl ?_
 refine⟨[(0,.val (.one (.d (.list (List.map kcD a))))),(3,.val (.one (.ref [D.list (List.map kcD B)])))], [],?_,?_⟩
 ·constructor<;>(repeat' (first|exact rfl|exact True.intro|exact⟨_,_,rfl⟩|exact(by decide)|apply And.intro))
 refine useN hsA ?_
 refine⟨_,_,_,Zpq B A hB hBn hAn,?_⟩
 refine Eq.trans (b:= .val (.one (.d (.list (List.map kcD (A.filter fun c=> !inP B c)))))) ?_ rfl
 rfl
theorem ZjQ (a b:List KC) (hn:a.length≤1048576) (B:List KC) (hB:B.Pairwise kcLt) (hBn:B.length≤1048576) (hsB:Spec Tryz.prog Tab 54 [.val (.one (.d (.list (List.map kcL [b]))))] (.val (.one (.d (.list (List.map kcD B)))))):Spec Tryz.prog Tab 19 [.val (.one (.d (.list (List.map kcD a)))),.val (.one (.d (.list (List.map kcD b))))] (bool (!decide (∃ c,c∈a∧¬ c∈B))):=by
 refine Zd Tryz.func19 rfl rfl Tryz.ntmps19 rfl (by kernel_rfl) rfl rfl ?_
 refine use hsB rfl ?_
 refine⟨[(0,.val (.one (.d (.list (List.map kcD a))))),(3,.val (.one (.ref [D.list (List.map kcD B)])))], [],?_,?_⟩
 ·constructor<;>(repeat' (first|exact rfl|exact True.intro|exact⟨_,_,rfl⟩|exact(by decide)|apply And.intro))
 refine use (Znq B a hB hBn hn) rfl ?_
 refine Eq.trans (b:=bool (!(decide (∃ c,c∈a∧¬ c∈B)))) ?_ rfl
 rfl
theorem Zo9 (a b M:List KC) (hsM:Spec Tryz.prog Tab 54 [.val (.one (.d (.list (List.map kcL [a,b]))))] (.val (.one (.d (.list (List.map kcD M)))))):Spec Tryz.prog Tab 33 [.val (.one (.d (.list (List.map kcD a)))),.val (.one (.d (.list (List.map kcD b))))] (.val (.one (.d (.list (List.map kcD M))))):=by
 refine Zd Tryz.func33 rfl rfl Tryz.ntmps33 rfl (by kernel_rfl) rfl rfl ?_
 refine use hsM rfl ?_
 refine Eq.trans (b:= .val (.one (.d (.list (List.map kcD M))))) ?_ rfl
 rfl
theorem meetZ {a b:List KC} (ha:0< a.length) (hb:0< b.length) (hna:a.length≤1048576) (hnb:b.length≤1048576):∃ R:List KC,R.Pairwise kcLt∧(∀ c,c∈R↔c∈a∧c∈b)∧R.length≤a.length∧Spec Tryz.prog Tab 29 [.val (.one (.d (.list (List.map kcD a)))),.val (.one (.d (.list (List.map kcD b))))] (.val (.one (.d (.list (List.map kcD R))))):=by
 obtain⟨A,a1,a2,a3,a4,_⟩:=sortedZ [a] (by simpa using ha) (by simpa using hna) (by simp)
 obtain⟨B,b1,b2,b3,_,b5⟩:=sortedZ [b] (by simpa using hb) (by simpa using hnb) (by simp)
 simp only [List.flatten_cons,List.flatten_nil,List.append_nil] at a2 a3 b2 b3
 refine⟨A.filter fun c=> !noP B c,a1.filter _,fun c=> ?_,Nat.le_trans (List.length_filter_le _ _) a3,ZoW a b B b1 (by omega) b5 A (by omega) a4⟩
 unfold noP;simp [a2,b2]
theorem minusZ {a b:List KC} (ha:0< a.length) (hb:0< b.length) (hna:a.length≤1048576) (hnb:b.length≤1048576):∃ R:List KC,R.Pairwise kcLt∧(∀ c,c∈R↔c∈a∧¬ c∈b)∧R.length≤a.length∧Spec Tryz.prog Tab 30 [.val (.one (.d (.list (List.map kcD a)))),.val (.one (.d (.list (List.map kcD b))))] (.val (.one (.d (.list (List.map kcD R))))):=by
 obtain⟨A,a1,a2,a3,a4,_⟩:=sortedZ [a] (by simpa using ha) (by simpa using hna) (by simp)
 obtain⟨B,b1,b2,b3,_,b5⟩:=sortedZ [b] (by simpa using hb) (by simpa using hnb) (by simp)
 simp only [List.flatten_cons,List.flatten_nil,List.append_nil] at a2 a3 b2 b3
 refine⟨A.filter fun c=> !inP B c,a1.filter _,fun c=> ?_,Nat.le_trans (List.length_filter_le _ _) a3,Zm4 a b B b1 (by omega) b5 A (by omega) a4⟩
 unfold inP;simp [a2,b2]
theorem withinZ {a b:List KC} (hb:0< b.length) (hna:a.length≤1048576) (hnb:b.length≤1048576):Spec Tryz.prog Tab 19 [.val (.one (.d (.list (List.map kcD a)))),.val (.one (.d (.list (List.map kcD b))))] (bool (!decide (∃ c,c∈a∧¬ c∈b))):=by
 obtain⟨B,b1,b2,b3,_,b5⟩:=sortedZ [b] (by simpa using hb) (by simpa using hnb) (by simp)
 simp only [List.flatten_cons,List.flatten_nil,List.append_nil] at b2 b3
 have h:=ZjQ a b hna B b1 (by omega) b5
 rwa [show decide (∃ c,c∈a∧¬ c∈B)=decide (∃ c,c∈a∧¬ c∈b) from decide_eq_decide.2 (by simp only [b2])] at h
theorem joinZ {a b:List KC} (h0:0< a.length+b.length) (hn:a.length+b.length≤1048576):∃ R:List KC,R.Pairwise kcLt∧(∀ c,c∈R↔c∈a∨c∈b)∧R.length≤a.length+b.length∧Spec Tryz.prog Tab 33 [.val (.one (.d (.list (List.map kcD a)))),.val (.one (.d (.list (List.map kcD b))))] (.val (.one (.d (.list (List.map kcD R))))):=by
 obtain⟨M,a1,a2,a3,_,a5⟩:=sortedZ [a,b] (by simpa using h0) (by simpa using hn) (by simp)
 simp only [List.flatten_cons,List.flatten_nil,List.append_nil,List.length_append,List.mem_append] at a2 a3
 exact⟨M,a1,a2,a3,Zo9 a b M a5⟩
end
end Go.Proofs.YtiekmbmgpachpaaGreatDoor.eng
namespace Go.Proofs.YtiekmbmgpachpaaGreatDoor.eng
open Go.RowKit num mem seg q held ratA ratB ratC ratD ratE vars ratF trq
theorem ZnT (x:Int):qs (ratM x)≤17:=by
 have hd:=ZeS x;have hm:=ZgU x
 have k1:=Zat (n:=numM x) (by omega) (by omega)
 have k2:qs ((denM x:Nat):Rat)≤8:=Zat (n:=(denM x:Int)) (by omega) (by omega)
 have k3:=ZcZ (numM x:Rat) (denM x:Rat)
 unfold ratM;omega
theorem Zc2 (l:List Int):0< (polyM l).length∧(polyM l).length≤5:=by have:=Zfx l;rw [Zfw];omega
def cellsQ (x y z t:Rat):List (Int×Int):=cellsL (ivl (c0 x) (c1 z)) (ivl (c0 y) (c1 t))
end Go.Proofs.YtiekmbmgpachpaaGreatDoor.eng
namespace Go.Proofs.YtiekmbmgpachpaaGreatDoor.eng
open Go.RowKit num mem seg q held ratA ratB ratC ratD ratE vars ratF trq
theorem Zoo {Q:List (RV×RV)} (h:0< Q.length):((∃ p,p∈Q∧bx1 Q=p.1.q)∧(∃ p,p∈Q∧bx2 Q=p.2.q))∧((∃ p,p∈Q∧bx3 Q=p.1.q)∧∃ p,p∈Q∧bx4 Q=p.2.q)∧bx1 Q≤bx3 Q∧bx2 Q≤bx4 Q:=by
 cases Q with
 |nil=>simp at h
 |cons a r=>
  have hx:∀ q,q∈xsQ r→∃ p,p∈a :: r∧q=p.1.q:=fun q hq=>by
   obtain⟨p,hp,rfl⟩:=List.mem_map.1 hq;exact⟨p,List.mem_cons_of_mem _ hp,rfl⟩
  have hy:∀ q,q∈ysQ r→∃ p,p∈a :: r∧q=p.2.q:=fun q hq=>by
   obtain⟨p,hp,rfl⟩:=List.mem_map.1 hq;exact⟨p,List.mem_cons_of_mem _ hp,rfl⟩
  refine⟨⟨?_,?_⟩,⟨?_,?_⟩,Rat.le_trans (ZeK _ _).1 (ZcJ _ _).1,Rat.le_trans (ZeK _ _).1 (ZcJ _ _).1⟩
  ·rcases ZhZ (xsQ r) a.1.q with g|g
   ·exact⟨a,List.mem_cons_self,g⟩
   ·exact hx _ g
  ·rcases ZhZ (ysQ r) a.2.q with g|g
   ·exact⟨a,List.mem_cons_self,g⟩
   ·exact hy _ g
  ·rcases ZfU (xsQ r) a.1.q with g|g
   ·exact⟨a,List.mem_cons_self,g⟩
   ·exact hx _ g
  ·rcases ZfU (ysQ r) a.2.q with g|g
   ·exact⟨a,List.mem_cons_self,g⟩
   ·exact hy _ g
end Go.Proofs.YtiekmbmgpachpaaGreatDoor.eng
namespace Go.Proofs.YtiekmbmgpachpaaGreatDoor.eng
open Go.RowKit num mem seg q held ratA ratB ratC ratD ratE vars ratF trq
theorem Zks (x:Int):-8≤ratM x∧ratM x≤8:=by
 have hd:=ZeS x;have hm:=ZgU x
 have h0:(0:Rat)< ((denM x:Nat):Rat):=by
  have:((0:Int):Rat)< (((denM x:Nat):Int):Rat):=Rat.intCast_lt_intCast.2 (by omega)
  exact this
 have e:ratM x*((denM x:Nat):Rat)=(numM x:Rat):=Rat.div_mul_cancel (by grind)
 have m1:((-(8*(denM x:Int)):Int):Rat)≤(numM x:Rat):=Rat.intCast_le_intCast.2 hm.1
 have m2:(numM x:Rat)≤((8*(denM x:Int):Int):Rat):=Rat.intCast_le_intCast.2 hm.2
 rw [Rat.intCast_neg,Rat.intCast_mul] at m1
 rw [Rat.intCast_mul] at m2
 have e8:((8:Int):Rat)=8:=rfl
 have ed:(((denM x:Nat):Int):Rat)=((denM x:Nat):Rat):=rfl
 rw [e8,ed,← e] at m1 m2
 generalize ratM x=q at*
 generalize ((denM x:Nat):Rat)=d at*
 constructor
 ·by_cases g:-8≤q
  ·exact g
  ·have:=Rat.mul_pos (show 0< -8 - q by grind) h0;grind
 ·by_cases g:q≤8
  ·exact g
  ·have:=Rat.mul_pos (show 0< q - 8 by grind) h0;grind
def movP (l:List Int) (x y:Rat):List (RV×RV):=(polyM l).map (movV (cn x) (cn y) false z0)
theorem ZaW (l:List Int) (x y:Rat):(movP l x y).length=(polyM l).length:=List.length_map ..
theorem Zk2 (x y:Rat) (p:RV×RV):movV (cn x) (cn y) false z0 p=(cn (x+p.1.q),cn (y+p.2.q)):=by
 have h1:cosq false 0=1:=by decide+kernel
 have h2:sinq 0=0:=by decide+kernel
 unfold movV vtX vtY tq
 simp only [cn_q,z0q,Bool.false_eq_true,if_false,h1,h2]
 refine Prod.ext ?_ ?_<;>simp only<;>congr 1<;>grind
theorem ZeH {l:List Int} {x y:Rat} {p:RV×RV} (h:p∈movP l x y):∃ a b:Int,(-8≤a∧a≤8)∧(-8≤b∧b≤8)∧p=(cn (x+qtr a),cn (y+qtr b)):=by
 obtain⟨p',hp,rfl⟩:=List.mem_map.1 h
 obtain⟨a,b,ha,hb,rfl⟩:=Zc3 hp
 exact⟨a,b,ha,hb,by rw [Zk2];simp only [cn_q]⟩
theorem ZhV {l:List Int} {x y:Rat} (hx:qs x≤100) (hy:qs y≤100):∀ p,p∈movP l x y→p.1.z≤1048576∧p.2.z≤1048576:=by
 intro p hp
 obtain⟨a,b,ha,hb,rfl⟩:=ZeH hp
 have h1:=(Zct ha).2;have h2:=(Zct hb).2
 have h3:=Z8 x (qtr a);have h4:=Z8 y (qtr b)
 exact⟨by show (cn _).z≤_;rw [cn_z];omega,by show (cn _).z≤_;rw [cn_z];omega⟩
theorem ZeA (l:List Int) (x y:Rat) {i:Nat} (hi:i< (polyM l).length):pts (movP l x y) i=((pts (polyM l) i).1+x,(pts (polyM l) i).2+y):=by
 unfold pts movP
 rw [List.getElem?_map,List.getElem?_eq_getElem hi]
 simp only [Option.map_some,Option.getD_some,Zk2,cn_q]
 exact Prod.ext (Rat.add_comm _ _) (Rat.add_comm _ _)
theorem Zqc (x y:Rat) (a b c:poly.Pt):poly.ori (a.1+x,a.2+y) (b.1+x,b.2+y) (c.1+x,c.2+y)=poly.ori a b c:=by unfold poly.ori;grind
theorem ZfF (l:List Int) (x y:Rat):convE 64 (movP l x y)=0:=by
 obtain⟨h1,h2,h3⟩:=Z6.1 (Zbm l)
 rw [Z6,ZaW]
 refine⟨h1,h2,fun i k hi hk1 hk2=> ?_⟩
 rw [ZeA l x y hi,ZeA l x y (Nat.mod_lt _ (by omega)),ZeA l x y (Nat.mod_lt _ (by omega)),Zqc]
 exact h3 i k hi hk1 hk2
theorem ZbB {Q:List (RV×RV)} {p:RV×RV} (h:p∈Q):(bx1 Q≤p.1.q∧p.1.q≤bx3 Q)∧bx2 Q≤p.2.q∧p.2.q≤bx4 Q:=by
 cases Q with
 |nil=>simp at h
 |cons a r=>
  obtain⟨l1,l2⟩:=ZeK (xsQ r) a.1.q
  obtain⟨l3,l4⟩:=ZcJ (xsQ r) a.1.q
  obtain⟨m1,m2⟩:=ZeK (ysQ r) a.2.q
  obtain⟨m3,m4⟩:=ZcJ (ysQ r) a.2.q
  rcases List.mem_cons.1 h with rfl|g
  ·exact⟨⟨l1,l3⟩,m1,m3⟩
  ·have gx:p.1.q∈xsQ r:=List.mem_map.2 ⟨p,g,rfl⟩
   have gy:p.2.q∈ysQ r:=List.mem_map.2 ⟨p,g,rfl⟩
   exact⟨⟨l2 _ gx,l4 _ gx⟩,m2 _ gy,m4 _ gy⟩
theorem polyM_pos' (l:List Int):0< (polyM l).length:=(Zc2 l).1
theorem Zl3 (l:List Int) (x y:Rat):(x - 2≤bx1 (movP l x y)∧bx3 (movP l x y)≤x+2)∧(y - 2≤bx2 (movP l x y)∧bx4 (movP l x y)≤y+2)∧bx1 (movP l x y)≤bx3 (movP l x y)∧bx2 (movP l x y)≤bx4 (movP l x y):=by
 obtain⟨⟨⟨p,hp,e1⟩,q,hq,e2⟩,⟨⟨r,hr,e3⟩,s,hs,e4⟩,h5,h6⟩:=Zoo (Q:=movP l x y) (by rw [ZaW];exact polyM_pos' l)
 have key:∀ p,p∈movP l x y→(x - 2≤p.1.q∧p.1.q≤x+2)∧y - 2≤p.2.q∧p.2.q≤y+2:=by
  intro p hp
  obtain⟨a,b,ha,hb,rfl⟩:=ZeH hp
  have h1:=(Zct ha).1;have h2:=(Zct hb).1
  simp only [cn_q]
  constructor<;>constructor<;>grind
 refine⟨⟨?_,?_⟩,⟨?_,?_⟩,h5,h6⟩
 ·rw [e1];exact(key p hp).1.1
 ·rw [e3];exact(key r hr).1.2
 ·rw [e2];exact(key q hq).2.1
 ·rw [e4];exact(key s hs).2.2
theorem Zgc {l:List Int} {x y:Rat} (hx:qs x≤100) (hy:qs y≤100):(qs (bx1 (movP l x y))≤1048576∧qs (bx2 (movP l x y))≤1048576)∧qs (bx3 (movP l x y))≤1048576∧qs (bx4 (movP l x y))≤1048576:=by
 obtain⟨⟨⟨p,hp,e1⟩,q,hq,e2⟩,⟨⟨r,hr,e3⟩,s,hs,e4⟩,_⟩:=Zoo (Q:=movP l x y) (by rw [ZaW];exact polyM_pos' l)
 have key:∀ p,p∈movP l x y→qs p.1.q≤1048576∧qs p.2.q≤1048576:=by
  intro p hp
  obtain⟨a,b,ha,hb,rfl⟩:=ZeH hp
  have h1:=(Zct ha).2;have h2:=(Zct hb).2
  have h3:=Z8 x (qtr a);have h4:=Z8 y (qtr b)
  simp only [cn_q]
  omega
 rw [e1,e2,e3,e4]
 exact⟨⟨(key p hp).1,(key q hq).2⟩,(key r hr).1,(key s hs).2⟩
theorem ZnZ (l:List Int):polyM l=movP l 0 0:=by
 unfold movP
 refine(List.map_id' _).symm.trans (List.map_congr_left fun p hp=> ?_)
 obtain⟨a,b,_,_,rfl⟩:=Zc3 hp
 rw [Zk2];simp only [cn_q,Rat.zero_add]
theorem Znw (l:List Int):(-2≤bx1 (polyM l)∧bx3 (polyM l)≤2)∧(-2≤bx2 (polyM l)∧bx4 (polyM l)≤2)∧bx1 (polyM l)≤bx3 (polyM l)∧bx2 (polyM l)≤bx4 (polyM l):=by
 rw [ZnZ l]
 obtain⟨⟨h1,h2⟩,⟨h3,h4⟩,h5,h6⟩:=Zl3 l 0 0
 exact⟨⟨by grind,by grind⟩,⟨by grind,by grind⟩,h5,h6⟩
theorem ZjH (l:List Int):(qs (bx1 (polyM l))≤1048576∧qs (bx2 (polyM l))≤1048576)∧qs (bx3 (polyM l))≤1048576∧qs (bx4 (polyM l))≤1048576:=by
 rw [ZnZ l]
 exact Zgc (by decide+kernel) (by decide+kernel)
theorem Zqg {u v a b c d:Rat} (hu:-8≤u∧u≤8) (hv:-8≤v∧v≤8) (h1:u - 2≤a) (h3:c≤u+2) (h2:v - 2≤b) (h4:d≤v+2):-12≤a∧c≤12∧-12≤b∧d≤12∧c≤a+4∧d≤b+4:=by
 refine⟨?_,?_,?_,?_,?_,?_⟩<;>grind
theorem ZpZ {a b c d:Rat} (h1:-2≤a) (h3:c≤2) (h2:-2≤b) (h4:d≤2):c≤a+4∧d≤b+4:=by constructor<;>grind
theorem Zqh {a b c d:Rat} (h1:-2≤a) (h3:c≤2) (h2:-2≤b) (h4:d≤2):-12≤a∧c≤12∧-12≤b∧d≤12:=by refine⟨?_,?_,?_,?_⟩<;>grind
theorem ZfZ {q:Rat} (h1:-2≤q) (h2:q≤2):flE q=0:=by
 have a1:c1 (-2)=-2:=by decide+kernel
 have a2:c1 2=2:=by decide+kernel
 have b1:=Zbj h1;have b2:=Zbj h2
 unfold c1 at*
 rw [ZeP];omega
theorem ZpB {p q:Rat} (h:p≤q):(c1 q:Rat)≤q∧p≤((c0 p+1:Int):Rat)∧((c0 p:Int):Rat)≤q∧c0 p≤c1 q:=by
 have h1:=Zy h
 have g1:=of_decide_eq_true ((ZeN p q (c0 p)).2 ⟨Int.le_refl _,h1⟩)
 have g2:=of_decide_eq_true ((ZeN p q (c1 q)).2 ⟨h1,Int.le_refl _⟩)
 exact⟨g2.1,g1.2,g1.1,h1⟩
theorem ZeW {p q:Rat} (h:p≤q) (w:q≤p+4):c1 q - c0 p+1≤6:=by
 obtain⟨h1,h2,_,_⟩:=ZpB h
 rw [Rat.intCast_add] at h2
 have e1:((1:Int):Rat)=1:=rfl
 have h3:((c1 q:Int):Rat)≤((c0 p:Int):Rat)+5:=by grind
 have e5:((5:Int):Rat)=5:=rfl
 have h4:((c1 q:Int):Rat)≤((c0 p+5:Int):Rat):=by rw [Rat.intCast_add,e5];exact h3
 have:=Rat.intCast_le_intCast.1 h4
 omega
theorem Zjr {x y z t:RV} (hx:x.q≤z.q) (hy:y.q≤t.q) (h1:-12≤x.q) (h2:z.q≤12) (h3:-12≤y.q) (h4:t.q≤12) (wx:z.q≤x.q+4) (wy:t.q≤y.q+4):gridR x y z t=(cellsL (ivl (c0 x.q) (c1 z.q)) (ivl (c0 y.q) (c1 t.q)),0):=by
 have b1:=Zy hx;have b2:=Zy hy
 have a1:=ZeW hx wx;have a2:=ZeW hy wy
 have q1:((-64:Int):Rat)< -12:=by decide+kernel
 have q2:(12:Rat)< ((64:Int):Rat):=by decide+kernel
 unfold gridR
 rw [if_pos ⟨hx,hy⟩,if_pos ⟨⟨by grind,by grind⟩,⟨by grind,by grind⟩⟩,if_neg]
 have hm:(c1 z.q - c0 x.q+1)*(c1 t.q - c0 y.q+1)≤6*6:=Int.mul_le_mul (by omega) (by omega) (by omega) (by omega)
 omega
theorem ZhA {x y z t:Rat} (hx:x≤z) (hy:y≤t) (wx:z≤x+4) (wy:t≤y+4):0< (cellsQ x y z t).length∧(cellsQ x y z t).length≤36:=by
 have b1:=Zy hx;have b2:=Zy hy
 have a1:=ZeW hx wx;have a2:=ZeW hy wy
 unfold cellsQ
 rw [Zee,Zdf,Zdf]
 exact⟨Nat.mul_pos (by omega) (by omega),Nat.le_trans (Nat.mul_le_mul (show _≤6 by omega) (show _≤6 by omega)) (Nat.le_refl 36)⟩
theorem gofS {x y z t:Rat} (hxz:x≤z) (hyt:y≤t) (h1:-12≤x) (h2:z≤12) (h3:-12≤y) (h4:t≤12) (wx:z≤x+4) (wy:t≤y+4) (z1:qs x≤67108864) (z2:qs y≤67108864) (z3:qs z≤67108864) (z4:qs t≤67108864):Spec Tryz.prog Tab 16 [box (cn x) (cn y) (cn z) (cn t)] (two (.val (.one (.d (.list (List.map kcD (cellsQ x y z t)))))) (int 0)):=by
 have h:=Zie (cn x) (cn y) (cn z) (cn t) (by rw [cn_z];omega) (by rw [cn_z];omega) (by rw [cn_z];omega) (by rw [cn_z];omega)
 have hn:=Zjr (x:=cn x) (y:=cn y) (z:=cn z) (t:=cn t) (by rwa [cn_q,cn_q]) (by rwa [cn_q,cn_q]) (by rwa [cn_q]) (by rwa [cn_q]) (by rwa [cn_q]) (by rwa [cn_q]) (by rwa [cn_q,cn_q]) (by rwa [cn_q,cn_q])
 simp only [cn_q] at hn
 rw [hn] at h
 exact h
theorem Zbt {x y z t:Rat} {c:Int×Int}:c∈cellsQ x y z t↔(c0 x≤c.1∧c.1≤c1 z)∧c0 y≤c.2∧c.2≤c1 t:=by
 unfold cellsQ
 rw [ZjG,Zln,Zln]
theorem Zdt {x y z t:Rat} (h1:-2≤x) (h3:z≤2) (h2:-2≤y) (h4:t≤2) {c:Int×Int} (h:c∈cellsQ x y z t):(-10≤c.1∧c.1≤10)∧-10≤c.2∧c.2≤10:=by
 have e0:c0 (-2)=-3:=by decide+kernel
 have e1:c1 2=2:=by decide+kernel
 have a1:=Zdw h1;have a2:=Zbj h3;have a3:=Zdw h2;have a4:=Zbj h4
 rw [Zbt] at h
 omega
theorem Zjx {x y z t u v:Rat} (h1:x≤u) (h2:u≤z) (h3:y≤v) (h4:v≤t):(u.floor,v.floor)∈cellsQ x y z t:=by
 have key:∀ {x u z:Rat},x≤u→u≤z→c0 x≤u.floor∧u.floor≤c1 z:=fun {x u z} g1 g2=>⟨Int.le_trans (Zdw g1) (Zy (Rat.le_refl:u≤u)),Zbj g2⟩
 rw [Zbt]
 exact⟨key h1 h2,key h3 h4⟩
theorem Zhb {a1 a2 a3 a4 b1 b2 b3 b4:Rat} (ha:a1≤a3∧a2≤a4) (hb:b1≤b3∧b2≤b4) (h1:a1≤b3) (h2:b1≤a3) (h3:a2≤b4) (h4:b2≤a4):∃ c,c∈cellsQ a1 a2 a3 a4∧c∈cellsQ b1 b2 b3 b4:=by
 have k1:=Zy ha.1;have k2:=Zy ha.2;have k3:=Zy hb.1;have k4:=Zy hb.2
 have k5:=Zy h1;have k6:=Zy h2;have k7:=Zy h3;have k8:=Zy h4
 refine⟨(max (c0 a1) (c0 b1),max (c0 a2) (c0 b2)),?_,?_⟩<;>rw [Zbt]<;>simp only<;>omega
theorem Zjd {a b:List (RV×RV)} (h:meetB a b=true) (ca:convE 64 a=0) (cb:convE 64 b=0):(bx1 a≤bx3 b∧bx1 b≤bx3 a)∧bx2 a≤bx4 b∧bx2 b≤bx4 a:=by
 obtain⟨_,a3,aE⟩:=Z6.1 ca
 obtain⟨_,b3,bE⟩:=Z6.1 cb
 have h0:=ZeY.2 ⟨ca,cb⟩
 have ht:=(Zj0 ca cb).1 ((Zqj h0).1 h)
 have no:∀ N:poly.Pt,¬ ∀ i j,i< a.length→j< b.length→0< poly.dt N (poly.sb (pts b j) (pts a i)):=fun N hN=>by
  rcases poly.beyond_of_line aE bE (by omega) (by omega) hN with g|g
  ·exact ht.1 (ZeZ.2 g)
  ·exact ht.2 (ZeZ.2 g)
 have at_:∀ {l:List (RV×RV)} {i:Nat},i< l.length→∃ p,p∈l∧pts l i=(p.1.q,p.2.q):=fun {l i} hi=>⟨l[i],List.getElem_mem hi,Za4 (List.getElem?_eq_getElem hi)⟩
 refine⟨⟨?_,?_⟩,?_,?_⟩
 ·refine Rat.not_lt.1 fun g=>no (-1,0) fun i j hi hj=> ?_
  obtain⟨p,hp,e1⟩:=at_ hi;obtain⟨q,hq,e2⟩:=at_ hj
  rw [e1,e2];have k1:=(ZbB hp).1.1;have k2:=(ZbB hq).1.2
  unfold poly.dt poly.sb;simp only;grind
 ·refine Rat.not_lt.1 fun g=>no (1,0) fun i j hi hj=> ?_
  obtain⟨p,hp,e1⟩:=at_ hi;obtain⟨q,hq,e2⟩:=at_ hj
  rw [e1,e2];have k1:=(ZbB hp).1.2;have k2:=(ZbB hq).1.1
  unfold poly.dt poly.sb;simp only;grind
 ·refine Rat.not_lt.1 fun g=>no (0,-1) fun i j hi hj=> ?_
  obtain⟨p,hp,e1⟩:=at_ hi;obtain⟨q,hq,e2⟩:=at_ hj
  rw [e1,e2];have k1:=(ZbB hp).2.1;have k2:=(ZbB hq).2.2
  unfold poly.dt poly.sb;simp only;grind
 ·refine Rat.not_lt.1 fun g=>no (0,1) fun i j hi hj=> ?_
  obtain⟨p,hp,e1⟩:=at_ hi;obtain⟨q,hq,e2⟩:=at_ hj
  rw [e1,e2];have k1:=(ZbB hp).2.2;have k2:=(ZbB hq).2.1
  unfold poly.dt poly.sb;simp only;grind
def mdpQ (a b:Rat):Rat:=(a+b)*(((1:Int):Rat) / ((2:Int):Rat))
theorem Zls:((1:Int):Rat) / ((2:Int):Rat)=1 / 2:=by decide+kernel
theorem Zjb {l:List (RV×RV)} (cl:convE 64 l=0) {p q:RV×RV} (hp:p∈l) (hq:q∈l) {x y:RV} (hx:x.q=mdpQ p.1.q q.1.q) (hy:y.q=mdpQ p.2.q q.2.q):hasP l x y=true:=by
 refine Zog ⟨cl,fun i hi=> ?_⟩
 obtain⟨_,l3,lE⟩:=Z6.1 cl
 obtain⟨j,hj,e1⟩:=Zk4 hp
 obtain⟨k,hk,e2⟩:=Zk4 hq
 have h1:=poly.edges_all lE hi hj
 have h2:=poly.edges_all lE hi hk
 rw [e1] at h1
 rw [e2] at h2
 generalize pts l i=a at*
 generalize pts l ((i+1) % l.length)=b at*
 have e:poly.ori a b (x.q,y.q)=1 / 2*(poly.ori a b (p.1.q,p.2.q)+poly.ori a b (q.1.q,q.2.q)):=by
  rw [hx,hy];unfold mdpQ poly.ori;rw [Zls];simp only;grind
 rw [e];grind
theorem Zc7 {a b l h:Rat} (h1:l≤a∧a≤h) (h2:l≤b∧b≤h):l≤mdpQ a b∧mdpQ a b≤h:=by
 unfold mdpQ;rw [Zls];constructor<;>grind
theorem Zc6 {x y z t:RV} {n m:Int} (h:¬ (n,m)∈cellsQ x.q y.q z.q t.q):decide (bxMeet (cn (n:Rat)) (cn (m:Rat)) (cn ((n+1:Int):Rat)) (cn ((m+1:Int):Rat)) x y z t)=false:=by
 refine decide_eq_false fun ⟨_,_,m3,m4,m5,m6⟩=>h ?_
 rw [cn_q] at m3 m4 m5 m6
 rw [Zbt]
 exact⟨(ZeN _ _ _).1 (decide_eq_true ⟨m3,m4⟩),(ZeN _ _ _).1 (decide_eq_true ⟨m5,m6⟩)⟩
theorem Zjc {a b:List (RV×RV)} {R:List (Int×Int)} (hR:∀ c,c∈R↔c∈cellsQ (bx1 a) (bx2 a) (bx3 a) (bx4 a)∧c∈cellsQ (bx1 b) (bx2 b) (bx3 b) (bx4 b)) (ha:bx1 a≤bx3 a∧bx2 a≤bx4 a) (hb:bx1 b≤bx3 b∧bx2 b≤bx4 b) (ca:convE 64 a=0) (cb:convE 64 b=0) (h:meetB a b=true):0< R.length:=by
 obtain⟨⟨h1,h2⟩,h3,h4⟩:=Zjd h ca cb
 obtain⟨c,c1,c2⟩:=Zhb ha hb h1 h2 h3 h4
 exact List.length_pos_of_mem ((hR c).2 ⟨c1,c2⟩)
end Go.Proofs.YtiekmbmgpachpaaGreatDoor.eng
namespace Go.Proofs.YtiekmbmgpachpaaGreatDoor.eng
open Go.RowKit num mem seg q held ratA ratB ratC ratD ratE vars ratF prf
section
variable {K : AV → Prop}
def isC (c x:KC):Bool:=decide (x=c)
theorem Zng (l:List KC) (c:KC) (hn:l.length≤1048576):Spec Tryz.prog Tab 65 [.val (.one (.d (.list (List.map kcD l)))),cell c.1 c.2] (int (fiZ (isC c) l)):=by
 have hL:(List.map kcD l).length=l.length:=List.length_map ..
 refine Zd Tryz.func65 rfl rfl Tryz.ntmps65 rfl (by kernel_rfl) rfl rfl ?_
 refine⟨Nat,fun i=> [(0,.val (.one (.d (.list (List.map kcD l))))),(3,.val (.one (.ptr 3 0))),(7,int ((List.map kcD l).length:Int)),(8,int (i:Int))],
  fun i=> [(3,.var 69 [.d (.v (.int .i64 (c.1))),.d (.v (.int .i64 (c.2)))])],fun i=>i≤l.length∧∀ (j:Nat) (y:KC),j< i→l[j]? =some y→isC c y=false,fun i=>l.length - i,0,?_,⟨Nat.zero_le _,fun j y h=>by omega⟩,fun i hs=> ?_⟩
 ·constructor<;>(repeat' (first|exact rfl|exact True.intro|exact⟨_,_,rfl⟩|exact(by decide)|apply And.intro))
  all_goals first|exact congrArg (fun n:Int=>D.v (.int .i64 n)) (by omega)|exact congrArg (fun n:Int=>D.v (.int .i64 n)) (by rw [wrap64 _ (by omega) (by omega)];omega)|(simp;done)
 obtain⟨g1,g2⟩:=hs
 refine⟨fun e1=> ?_,fun e1=> ?_⟩
 ·have f9:(i:Int)< ((List.map kcD l).length:Int):=of_decide_eq_true e1
  refine get_ex (l:=l) (i:=i) (by first|omega|exact Nat.mod_lt _ (by omega)) fun x14 hx14=> ?_
  refine k_ix i [D.v (.int .i64 (x14.1)),D.v (.int .i64 (x14.2))] (by first|rfl|omega|(rw [wrap64 _ (by omega) (by omega)];omega)|(rw [wrap64 _ (by omega) (by omega)];split<;>omega)) (Zj hx14) rfl ?_
  refine Zcv (fun f16=> ?_) (fun f16=> ?_)
  ·refine⟨by kernel_rfl,?_⟩
   refine⟨fun _=> ?_,fun e=>absurd e (by decide)⟩
   refine Eq.trans (b:=int (i:Int)) ?_ rfl
   rw [Zim hx14 (decide_eq_true (Prod.ext f16.1.symm f16.2.symm)) g2]
  ·refine⟨by kernel_rfl,?_⟩
   refine⟨fun e=>absurd e (by decide),fun _=> ?_⟩
   refine⟨i+1,⟨by omega,fun j y hj hy=>by
    by_cases e:j=i
    ·subst e;rw [hx14] at hy;rw [← Option.some.inj hy];exact decide_eq_false fun e=>f16 (by rw [← e];exact⟨rfl,rfl⟩)
    ·exact g2 j y (by omega) hy⟩,by simp only;omega,?_⟩
   constructor<;>(repeat' (first|exact rfl|exact True.intro|apply And.intro))
   all_goals first
    |exact congrArg (fun n:Int=>D.v (.int .i64 n)) (by rw [wrap64 _ (by omega) (by omega)];omega)
    |exact congrArg (fun n:Int=>D.v (.int .i64 n)) (by omega)
 ·have f9:¬ ((i:Int)< ((List.map kcD l).length:Int)):=of_decide_eq_false e1
  refine Eq.trans (b:=int (-1)) ?_ rfl
  rw [Zil fun j y hy=>g2 j y (by have:=(List.getElem?_eq_some_iff.1 hy).1;omega) hy]
theorem Znr (l:List KC) (c:KC) (hn:l.length≤1048576):Spec Tryz.prog Tab 28 [.val (.one (.d (.list (List.map kcD l)))),cell c.1 c.2] (bool (decide (c∈l))):=by
 refine Zd Tryz.func28 rfl rfl Tryz.ntmps28 rfl (by kernel_rfl) rfl rfl ?_
 refine use (Zng l c hn) rfl ?_
 refine Eq.trans (b:=bool (decide (fiZ (isC c) l≥0))) ?_ rfl
 rw [show decide (fiZ (isC c) l≥0)=decide (c∈l) from decide_eq_decide.2 ?_]
 rcases ZaM (isC c) l with ⟨h,h2⟩|⟨i,x,h,h2,h3,_⟩
 ·rw [h];exact⟨fun g=>by omega,fun h3=>by have:=h2 c h3;exact absurd rfl (of_decide_eq_false this)⟩
 ·rw [h];exact⟨fun _=>(of_decide_eq_true h3) ▸ List.mem_of_getElem? h2,fun _=>by omega⟩
theorem Zhd (x y z:RV)  (hx:x.z≤1099511627776) (hy:y.z≤1099511627776) (hz:z.z≤1099511627776):Spec Tryz.prog Tab 23 [pair x y,rat z] (pair (cn (x.q*z.q)) (cn (y.q*z.q))):=by
 refine Zd Tryz.func23 rfl rfl Tryz.ntmps23 rfl (by kernel_rfl) rfl rfl ?_
 refine ZaL (x:=x) (y:=z) (by omega) (by omega) fun q8 h8 z8=> ?_
 simp only [cn_z] at z8
 refine ZaL (x:=y) (y:=z) (by omega) (by omega) fun q12 h12 z12=> ?_
 simp only [cn_z] at z12
 refine⟨by kernel_rfl,?_⟩
 refine Eq.trans (b:=pair (cn q8) (cn q12)) ?_ rfl
 subst_vars;rfl
section
variable {x y z : RV} 
theorem Zne (hx:x.z≤1099511627776) (hy:y.z≤1099511627776) (hz:z.z≤1099511627776) (k:∀ p q,p=x.q*z.q→q=y.q*z.q→(cn p).z≤x.z+z.z+3→(cn q).z≤y.z+z.z+3→K (pair (cn p) (cn q))):Ask 23 [pair x y,rat z] K:=
 use (Zhd x y z  hx hy hz) rfl (k _ _ rfl rfl (by rw [cn_z];have:=x.z1;have:=z.z1;have:=ZT x.q z.q;omega) (by rw [cn_z];have:=y.z1;have:=z.z1;have:=ZT y.q z.q;omega))
end
end
end Go.Proofs.YtiekmbmgpachpaaGreatDoor.eng
namespace Go.Proofs.YtiekmbmgpachpaaGreatDoor.eng
open Go.RowKit num mem seg q held ratA ratB ratC ratD ratE vars ratF prf natC natD natI sub32 trq
section
variable {K : AV → Prop}
set_option maxHeartbeats 1000000 in
theorem Zdu (l:List Int) (hl:∀ x,x∈l→-9223372036854775808≤x∧x≤9223372036854775807) (m:List Int) (hm:∀ x,x∈m→-9223372036854775808≤x∧x≤9223372036854775807) (x y i k:Int) (hx:-9223372036854775808≤x∧x≤9223372036854775807) (hy:-9223372036854775808≤y∧y≤9223372036854775807) (hi:-9223372036854775808≤i∧i≤9223372036854775807) (hk:-9223372036854775808≤k∧k≤9223372036854775807):Spec Tryz.prog Tab 4 [.val (.one (.d (.list (List.map stD l)))),.val (.one (.d (.list (List.map stD m)))),int x,int y,int i,int k] (bool true):=by
 have hpl:=Zc2 l
 have hpm:=Zc2 m
 have hLl:(List.map rdv (polyM l)).length=(polyM l).length:=List.length_map ..
 refine Zd Tryz.func4 rfl rfl Tryz.ntmps4 rfl (by kernel_rfl) rfl rfl ?_
 refine use ZfW rfl ?_
 refine⟨fun e=>absurd e (by decide),fun _=> ?_⟩
 refine use (Zgg l hl) rfl ?_
 refine use (Zgf x hx) rfl ?_
 have hrx:=ZnT x
 have hbx:=Zks x
 refine use (Zgf y hy) rfl ?_
 have hry:=ZnT y
 have hby:=Zks y
 refine use (Zgg m hm) rfl ?_
 refine Zo6 (x:=cn (ratM x)) (y:=cn (ratM y)) (h:=false) (z:=z0) (polyM m) rfl (by rw [cn_z];omega) (by rw [cn_z];omega) (by rw [z0z];omega) (fun p hp=>by have:=Zce m p hp;omega) (by omega) ?_
 obtain⟨⟨eB1,eB3⟩,⟨eB2,eB4⟩,oB1,oB2⟩:=Zl3 m (ratM x) (ratM y)
 obtain⟨⟨zB1,zB2⟩,zB3,zB4⟩:=Zgc (l:=m) (x:=ratM x) (y:=ratM y) (by omega) (by omega)
 obtain⟨⟨nA1,nA3⟩,⟨nA2,nA4⟩,oA1,oA2⟩:=Znw l
 obtain⟨⟨zA1,zA2⟩,zA3,zA4⟩:=ZjH l
 obtain⟨nB1,nB3,nB2,nB4,wB1,wB2⟩:=Zqg hbx hby eB1 eB3 eB2 eB4
 obtain⟨wA1,wA2⟩:=ZpZ nA1 nA3 nA2 nA4
 obtain⟨lA1,lA2⟩:=ZhA oA1 oA2 wA1 wA2
 obtain⟨lB1,lB2⟩:=ZhA oB1 oB2 wB1 wB2
 obtain⟨iA1,iA3,iA2,iA4⟩:=Zqh nA1 nA3 nA2 nA4
 obtain⟨gM,_,gM2,gM3,gM4⟩:=meetZ (a:=cellsQ (bx1 (polyM l)) (bx2 (polyM l)) (bx3 (polyM l)) (bx4 (polyM l))) (b:=cellsQ (bx1 (movP m (ratM x) (ratM y))) (bx2 (movP m (ratM x) (ratM y))) (bx3 (movP m (ratM x) (ratM y))) (bx4 (movP m (ratM x) (ratM y)))) lA1 lB1 (by omega) (by omega)
 have hgMf:=Zjc gM2 ⟨oA1,oA2⟩ ⟨oB1,oB2⟩ (Zbm l) (ZfF m (ratM x) (ratM y))
 obtain⟨gN,_,gN2,gN3,gN4⟩:=minusZ (a:=cellsQ (bx1 (polyM l)) (bx2 (polyM l)) (bx3 (polyM l)) (bx4 (polyM l))) (b:=cellsQ (bx1 (movP m (ratM x) (ratM y))) (bx2 (movP m (ratM x) (ratM y))) (bx3 (movP m (ratM x) (ratM y))) (bx4 (movP m (ratM x) (ratM y)))) lA1 lB1 (by omega) (by omega)
 obtain⟨gJ,_,gJ2,gJ3,gJ4⟩:=joinZ (a:=cellsQ (bx1 (polyM l)) (bx2 (polyM l)) (bx3 (polyM l)) (bx4 (polyM l))) (b:=cellsQ (bx1 (movP m (ratM x) (ratM y))) (bx2 (movP m (ratM x) (ratM y))) (bx3 (movP m (ratM x) (ratM y))) (bx4 (movP m (ratM x) (ratM y)))) (by omega) (by omega)
 refine Zde (l:=polyM l) (fun p hp=>by have:=Zce l p hp;omega) (by omega) fun p44 q44 r44 u44 hp hq hr hu=> ?_
 subst hp hq hr hu
 refine use (gofS (x:=bx1 (polyM l)) (y:=bx2 (polyM l)) (z:=bx3 (polyM l)) (t:=bx4 (polyM l)) oA1 oA2 iA1 iA3 iA2 iA4 wA1 wA2 (by omega) (by omega) (by omega) (by omega)) rfl ?_
 refine Zde (l:=movP m (ratM x) (ratM y)) (fun p hp=>by have:=ZhV (l:=m) (x:=ratM x) (y:=ratM y) (by omega) (by omega) p hp;omega) (by rw [ZaW];omega) fun p50 q50 r50 u50 hp hq hr hu=> ?_
 subst hp hq hr hu
 refine use (gofS (x:=bx1 (movP m (ratM x) (ratM y))) (y:=bx2 (movP m (ratM x) (ratM y))) (z:=bx3 (movP m (ratM x) (ratM y))) (t:=bx4 (movP m (ratM x) (ratM y))) oB1 oB2 nB1 nB3 nB2 nB4 wB1 wB2 (by omega) (by omega) (by omega) (by omega)) rfl ?_
 refine use (Zk5 (polyM l) (movP m (ratM x) (ratM y)) (fun p hp=>by have:=Zce l p hp;omega) (fun p hp=>by have:=ZhV (l:=m) (x:=ratM x) (y:=ratM y) (by omega) (by omega) p hp;omega) (by omega) (by rw [ZaW];omega)) rfl ?_
 rw [ZeY.2 ⟨Zbm l,ZfF m (ratM x) (ratM y)⟩]
 refine⟨fun e=>absurd e (by decide),fun _=> ?_⟩
 refine Zh7 1 2 (by omega) (by omega) (by omega) (by omega) (by decide+kernel) fun q71 h71 z71=> ?_
 simp only [cn_z] at z71
 refine use (ZaQ i ((List.map rdv (polyM l)).length:Int) hi (by omega)) rfl ?_
 have hmi1:=Int.emod_nonneg i (show ((polyM l).length:Int)≠0 by omega)
 have hmi2:=Int.emod_lt_of_pos i (show 0< ((polyM l).length:Int) by omega)
 have hmi0:i % ((List.map rdv (polyM l)).length:Int)=i % ((polyM l).length:Int):=by rw [hLl]
 refine get_ex (l:=(polyM l)) (i:=((i % ((polyM l).length:Int)).toNat)) (by first|omega|exact Nat.mod_lt _ (by omega)) fun x79 hx79=> ?_
 have hzx79:=Zce l x79 (List.mem_of_getElem? hx79)
 have hmx79:=ZbB (List.mem_of_getElem? hx79)
 refine k_ix ((i % ((polyM l).length:Int)).toNat) [D.v (.bool x79.1.s),D.v (.string x79.1.a),D.v (.string x79.1.d),D.v (.bool x79.2.s),D.v (.string x79.2.a),D.v (.string x79.2.d)] (by first|rfl|omega|(rw [wrap64 _ (by omega) (by omega)];omega)|(rw [wrap64 _ (by omega) (by omega)];split<;>omega)) (Zj hx79) rfl ?_
 refine use (ZaQ k ((List.map rdv (polyM l)).length:Int) hk (by omega)) rfl ?_
 have hmk1:=Int.emod_nonneg k (show ((polyM l).length:Int)≠0 by omega)
 have hmk2:=Int.emod_lt_of_pos k (show 0< ((polyM l).length:Int) by omega)
 have hmk0:k % ((List.map rdv (polyM l)).length:Int)=k % ((polyM l).length:Int):=by rw [hLl]
 refine get_ex (l:=(polyM l)) (i:=((k % ((polyM l).length:Int)).toNat)) (by first|omega|exact Nat.mod_lt _ (by omega)) fun x86 hx86=> ?_
 have hzx86:=Zce l x86 (List.mem_of_getElem? hx86)
 have hmx86:=ZbB (List.mem_of_getElem? hx86)
 refine k_ix ((k % ((polyM l).length:Int)).toNat) [D.v (.bool x86.1.s),D.v (.string x86.1.a),D.v (.string x86.1.d),D.v (.bool x86.2.s),D.v (.string x86.2.a),D.v (.string x86.2.d)] (by first|rfl|omega|(rw [wrap64 _ (by omega) (by omega)];omega)|(rw [wrap64 _ (by omega) (by omega)];split<;>omega)) (Zj hx86) rfl ?_
 refine ZfP (x:=x79.1) (y:=x79.2) (z:=x86.1) (t:=x86.2) (by omega) (by omega) (by omega) (by omega) (fun p88 q88 hk_88_2 hk_88_3 hk_88_4 hk_88_5=> ?_)
 simp only [cn_z] at hk_88_4
 simp only [cn_z] at hk_88_5
 refine Zne (x:=cn p88) (y:=cn q88) (z:=cn q71) (by simp only [cn_z];omega) (by simp only [cn_z];omega) (by simp only [cn_z];omega) fun p90 q90 hp90 hq90 zp90 zq90=> ?_
 simp only [cn_q,cn_z] at hp90 hq90 zp90 zq90
 have ep:p90=mdpQ x79.1.q x86.1.q:=by unfold mdpQ;rw [hp90,hk_88_2,h71]
 have eq:q90=mdpQ x79.2.q x86.2.q:=by unfold mdpQ;rw [hq90,hk_88_3,h71]
 have bp:=Zc7 hmx79.1 hmx86.1
 have bq:=Zc7 hmx79.2 hmx86.2
 rw [← ep] at bp
 rw [← eq] at bq
 have fp:flE p90=0:=ZfZ (Rat.le_trans nA1 bp.1) (Rat.le_trans bp.2 nA3)
 have fq:flE q90=0:=ZfZ (Rat.le_trans nA2 bq.1) (Rat.le_trans bq.2 nA4)
 have hfc:=Zjx bp.1 bp.2 bq.1 bq.2
 have hmd:=Zjb (Zbm l) (List.mem_of_getElem? hx79) (List.mem_of_getElem? hx86) (x:=cn p90) (y:=cn q90) ((cn_q p90).trans ep) ((cn_q q90).trans eq)
 refine⟨by kernel_rfl,?_⟩
 refine Zci (x:=cn p90) (by rw [cn_z];omega) fun v94 e94 hv94 he94=> ?_
 rw [cn_q] at hv94 he94
 rw [fp] at he94
 rw [Zd8 fp] at hv94
 subst hv94 he94
 refine Zci (x:=cn q90) (by rw [cn_z];omega) fun v100 e100 hv100 he100=> ?_
 rw [cn_q] at hv100 he100
 rw [fq] at he100
 rw [Zd8 fq] at hv100
 subst hv100 he100
 refine Zqy (l:=polyM l) (x:=cn p90) (y:=cn q90) (fun p hp=>by have:=Zce l p hp;omega) (by omega) (by rw [cn_z];omega) (by rw [cn_z];omega) fun b112 hb112=> ?_
 rw [hmd] at hb112
 subst hb112
 have hct:=Znr (cellsQ (bx1 (polyM l)) (bx2 (polyM l)) (bx3 (polyM l)) (bx4 (polyM l))) (p90.floor,q90.floor) (by omega)
 rw [decide_eq_true hfc] at hct
 refine use hct rfl ?_
 refine fork (fun e1=> ?_) (fun e1=> ?_)
 ·have f125:meetB (polyM l) (movP m (ratM x) (ratM y))=true:=e1
  refine use gM4 rfl ?_
  have hgM:=hgMf f125
  have lgM:(List.map kcD gM).length=gM.length:=List.length_map ..
  refine⟨fun e2=> ?_,fun e2=> ?_⟩
  ·have f132:((List.map kcD gM).length:Int)=0:=ZaN e2
   exfalso
   omega
  ·have f132:¬ (((List.map kcD gM).length:Int)=0):=ZaO e2
   refine use gN4 rfl ?_
   have lgN:(List.map kcD gN).length=gN.length:=List.length_map ..
   refine⟨Nat,fun j=> [(14,.val (.one (.d (.list (List.map rdv (movP m (ratM x) (ratM y))))))),(15,.val (.one (.d (.list (List.map kcD (cellsQ (bx1 (polyM l)) (bx2 (polyM l)) (bx3 (polyM l)) (bx4 (polyM l)))))))),(17,.val (.one (.d (.list (List.map kcD (cellsQ (bx1 (movP m (ratM x) (ratM y))) (bx2 (movP m (ratM x) (ratM y))) (bx3 (movP m (ratM x) (ratM y))) (bx4 (movP m (ratM x) (ratM y))))))))),(135,.val (.one (.d (.list (List.map kcD gN))))),(136,int ((List.map kcD gN).length:Int)),(137,int (j:Int))],
    fun j=> [],fun j=>j≤gN.length,fun j=>gN.length - j,0,?_,Nat.zero_le _,fun j hs=> ?_⟩
   ·constructor<;>(repeat' (first|exact rfl|exact True.intro|exact⟨_,_,rfl⟩|exact(by decide)|apply And.intro))
    all_goals first|exact congrArg (fun n:Int=>D.v (.int .i64 n)) (by omega)|exact congrArg (fun n:Int=>D.v (.int .i64 n)) (by rw [wrap64 _ (by omega) (by omega)];omega)|(simp;done)
   refine⟨fun e3=> ?_,fun e3=> ?_⟩
   ·have f138:(j:Int)< ((List.map kcD gN).length:Int):=of_decide_eq_true e3
    refine get_ex (l:=gN) (i:=j) (by first|omega|exact Nat.mod_lt _ (by omega)) fun x139 hx139=> ?_
    have hgx139:=(gN2 x139).1 (List.mem_of_getElem? hx139)
    have hcx139:=Zdt nA1 nA3 nA2 nA4 hgx139.1
    have hwx1391:IntKind.i64.wrap (x139.1+1)=x139.1+1:=wrap64 _ (by omega) (by omega)
    have hwx1392:IntKind.i64.wrap (x139.2+1)=x139.2+1:=wrap64 _ (by omega) (by omega)
    refine k_ix j [D.v (.int .i64 (x139.1)),D.v (.int .i64 (x139.2))] (by first|rfl|omega|(rw [wrap64 _ (by omega) (by omega)];omega)|(rw [wrap64 _ (by omega) (by omega)];split<;>omega)) (Zj hx139) rfl ?_
    refine k_of (x139.1) (by omega) (by omega) fun q143 h143 z143=> ?_
    simp only [cn_z] at z143
    refine k_of (x139.2) (by omega) (by omega) fun q146 h146 z146=> ?_
    simp only [cn_z] at z146
    refine k_of (IntKind.i64.wrap (x139.1+1)) (by omega) (by omega) fun q151 h151 z151=> ?_
    simp only [cn_z] at z151
    refine k_of (IntKind.i64.wrap (x139.2+1)) (by omega) (by omega) fun q155 h155 z155=> ?_
    simp only [cn_z] at z155
    refine⟨by kernel_rfl,?_⟩
    refine Zde (l:=movP m (ratM x) (ratM y)) (fun p hp=>by have:=ZhV (l:=m) (x:=ratM x) (y:=ratM y) (by omega) (by omega) p hp;omega) (by rw [ZaW];omega) fun p160 q160 r160 u160 hp hq hr hu=> ?_
    subst hp hq hr hu
    have hbb:=Zeg (cn q143) (cn q146) (cn q151) (cn q155) (cn (bx1 (movP m (ratM x) (ratM y)))) (cn (bx2 (movP m (ratM x) (ratM y)))) (cn (bx3 (movP m (ratM x) (ratM y)))) (cn (bx4 (movP m (ratM x) (ratM y)))) (by rw [cn_z];omega) (by rw [cn_z];omega) (by rw [cn_z];omega) (by rw [cn_z];omega) (by rw [cn_z];omega) (by rw [cn_z];omega) (by rw [cn_z];omega) (by rw [cn_z];omega)
    have hbm:decide (bxMeet (cn q143) (cn q146) (cn q151) (cn q155) (cn (bx1 (movP m (ratM x) (ratM y)))) (cn (bx2 (movP m (ratM x) (ratM y)))) (cn (bx3 (movP m (ratM x) (ratM y)))) (cn (bx4 (movP m (ratM x) (ratM y)))))=false:=by
     rw [h143,h146,h151,h155,hwx1391,hwx1392]
     exact Zc6 (by simp only [cn_q];exact hgx139.2)
    rw [hbm] at hbb
    refine use hbb rfl ?_
    refine⟨by kernel_rfl,?_⟩
    refine⟨fun e=>absurd e (by decide),fun _=> ?_⟩
    refine⟨j+1,by omega,by simp only;omega,?_⟩
    constructor<;>(repeat' (first|exact rfl|exact True.intro|apply And.intro))
    all_goals first
     |exact congrArg (fun n:Int=>D.v (.int .i64 n)) (by rw [wrap64 _ (by omega) (by omega)];omega)
     |exact congrArg (fun n:Int=>D.v (.int .i64 n)) (by omega)
   ·have f138:¬ ((j:Int)< ((List.map kcD gN).length:Int)):=of_decide_eq_false e3
    refine use gJ4 rfl ?_
    have hgw:=withinZ (a:=cellsQ (bx1 (polyM l)) (bx2 (polyM l)) (bx3 (polyM l)) (bx4 (polyM l))) (b:=gJ) (List.length_pos_of_mem ((gJ2 _).2 (.inl hfc))) (by omega) (by omega)
    rw [decide_eq_false (fun ⟨c,c1,c2⟩=>c2 ((gJ2 c).2 (.inl c1)))] at hgw
    refine use hgw rfl ?_
    refine Eq.trans (b:=bool true) ?_ rfl
    rfl
 ·have f125:¬ (meetB (polyM l) (movP m (ratM x) (ratM y))=true):=(Bool.eq_false_iff.1 e1)
  refine⟨fun e=>absurd e (by decide),fun _=> ?_⟩
  refine use gN4 rfl ?_
  have lgN:(List.map kcD gN).length=gN.length:=List.length_map ..
  refine⟨Nat,fun j=> [(14,.val (.one (.d (.list (List.map rdv (movP m (ratM x) (ratM y))))))),(15,.val (.one (.d (.list (List.map kcD (cellsQ (bx1 (polyM l)) (bx2 (polyM l)) (bx3 (polyM l)) (bx4 (polyM l)))))))),(17,.val (.one (.d (.list (List.map kcD (cellsQ (bx1 (movP m (ratM x) (ratM y))) (bx2 (movP m (ratM x) (ratM y))) (bx3 (movP m (ratM x) (ratM y))) (bx4 (movP m (ratM x) (ratM y))))))))),(135,.val (.one (.d (.list (List.map kcD gN))))),(136,int ((List.map kcD gN).length:Int)),(137,int (j:Int))],
   fun j=> [],fun j=>j≤gN.length,fun j=>gN.length - j,0,?_,Nat.zero_le _,fun j hs=> ?_⟩
  ·constructor<;>(repeat' (first|exact rfl|exact True.intro|exact⟨_,_,rfl⟩|exact(by decide)|apply And.intro))
   all_goals first|exact congrArg (fun n:Int=>D.v (.int .i64 n)) (by omega)|exact congrArg (fun n:Int=>D.v (.int .i64 n)) (by rw [wrap64 _ (by omega) (by omega)];omega)|(simp;done)
  refine⟨fun e4=> ?_,fun e4=> ?_⟩
  ·have f138:(j:Int)< ((List.map kcD gN).length:Int):=of_decide_eq_true e4
   refine get_ex (l:=gN) (i:=j) (by first|omega|exact Nat.mod_lt _ (by omega)) fun x139 hx139=> ?_
   have hgx139:=(gN2 x139).1 (List.mem_of_getElem? hx139)
   have hcx139:=Zdt nA1 nA3 nA2 nA4 hgx139.1
   have hwx1391:IntKind.i64.wrap (x139.1+1)=x139.1+1:=wrap64 _ (by omega) (by omega)
   have hwx1392:IntKind.i64.wrap (x139.2+1)=x139.2+1:=wrap64 _ (by omega) (by omega)
   refine k_ix j [D.v (.int .i64 (x139.1)),D.v (.int .i64 (x139.2))] (by first|rfl|omega|(rw [wrap64 _ (by omega) (by omega)];omega)|(rw [wrap64 _ (by omega) (by omega)];split<;>omega)) (Zj hx139) rfl ?_
   refine k_of (x139.1) (by omega) (by omega) fun q143 h143 z143=> ?_
   simp only [cn_z] at z143
   refine k_of (x139.2) (by omega) (by omega) fun q146 h146 z146=> ?_
   simp only [cn_z] at z146
   refine k_of (IntKind.i64.wrap (x139.1+1)) (by omega) (by omega) fun q151 h151 z151=> ?_
   simp only [cn_z] at z151
   refine k_of (IntKind.i64.wrap (x139.2+1)) (by omega) (by omega) fun q155 h155 z155=> ?_
   simp only [cn_z] at z155
   refine⟨by kernel_rfl,?_⟩
   refine Zde (l:=movP m (ratM x) (ratM y)) (fun p hp=>by have:=ZhV (l:=m) (x:=ratM x) (y:=ratM y) (by omega) (by omega) p hp;omega) (by rw [ZaW];omega) fun p160 q160 r160 u160 hp hq hr hu=> ?_
   subst hp hq hr hu
   have hbb:=Zeg (cn q143) (cn q146) (cn q151) (cn q155) (cn (bx1 (movP m (ratM x) (ratM y)))) (cn (bx2 (movP m (ratM x) (ratM y)))) (cn (bx3 (movP m (ratM x) (ratM y)))) (cn (bx4 (movP m (ratM x) (ratM y)))) (by rw [cn_z];omega) (by rw [cn_z];omega) (by rw [cn_z];omega) (by rw [cn_z];omega) (by rw [cn_z];omega) (by rw [cn_z];omega) (by rw [cn_z];omega) (by rw [cn_z];omega)
   have hbm:decide (bxMeet (cn q143) (cn q146) (cn q151) (cn q155) (cn (bx1 (movP m (ratM x) (ratM y)))) (cn (bx2 (movP m (ratM x) (ratM y)))) (cn (bx3 (movP m (ratM x) (ratM y)))) (cn (bx4 (movP m (ratM x) (ratM y)))))=false:=by
    rw [h143,h146,h151,h155,hwx1391,hwx1392]
    exact Zc6 (by simp only [cn_q];exact hgx139.2)
   rw [hbm] at hbb
   refine use hbb rfl ?_
   refine⟨by kernel_rfl,?_⟩
   refine⟨fun e=>absurd e (by decide),fun _=> ?_⟩
   refine⟨j+1,by omega,by simp only;omega,?_⟩
   constructor<;>(repeat' (first|exact rfl|exact True.intro|apply And.intro))
   all_goals first
    |exact congrArg (fun n:Int=>D.v (.int .i64 n)) (by rw [wrap64 _ (by omega) (by omega)];omega)
    |exact congrArg (fun n:Int=>D.v (.int .i64 n)) (by omega)
  ·have f138:¬ ((j:Int)< ((List.map kcD gN).length:Int)):=of_decide_eq_false e4
   refine use gJ4 rfl ?_
   have hgw:=withinZ (a:=cellsQ (bx1 (polyM l)) (bx2 (polyM l)) (bx3 (polyM l)) (bx4 (polyM l))) (b:=gJ) (List.length_pos_of_mem ((gJ2 _).2 (.inl hfc))) (by omega) (by omega)
   rw [decide_eq_false (fun ⟨c,c1,c2⟩=>c2 ((gJ2 c).2 (.inl c1)))] at hgw
   refine use hgw rfl ?_
   refine Eq.trans (b:=bool true) ?_ rfl
   rfl
theorem cellsCover_walk (v0:Value) (l:List Int) (v1:Value) (m:List Int) (x y i k:Int) (N:Nat) (w:World) (_:1≤N) (_:N≤1048576)
  (h0:Den w (fun b=>b< w.heap.size) v0 (.list (l.map intD))) (l2:argopen.intsZ l N) (h1:Den w (fun b=>b< w.heap.size) v1 (.list (m.map intD))) (m2:argopen.intsZ m N)
  (hx:-9223372036854775808≤x∧x≤9223372036854775807) (hy:-9223372036854775808≤y∧y≤9223372036854775807) (hi:-9223372036854775808≤i∧i≤9223372036854775807) (hk:-9223372036854775808≤k∧k≤9223372036854775807) (hT:Tab w):
  Calls Tryz.prog 4 #[v0,v1,.int .i64 x,.int .i64 y,.int .i64 i,.int .i64 k] w fun e w'=>e= .returned (.bool true)∧Below w.heap.size w w':=
 ZdI (I:=fun b=>b< w.heap.size) (Zdu l l2.2 m m2.2 x y i k hx hy hi hk) rfl hT (fun _ h=>h)
  (((ZgJ (vs:= [int x,int y,int i,int k]) rfl).cons (show DenAV _ _ _ _ v1 (.val (.one (.d (.list _)))) from h1)).cons (show DenAV _ _ _ _ v0 (.val (.one (.d (.list _)))) from h0))
end
end Go.Proofs.YtiekmbmgpachpaaGreatDoor.eng
