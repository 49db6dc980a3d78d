/- Joined by wip/bundle.py: XSayA XRoa0 XOpenI XFrac XTop0 XPrf0 XTopA. -/
import Derived.Test.YtgmkgfdjolchdaaGreatDoorQGrpL
import Derived.Test.YtgmkgfdjolchdaaGreatDoorQGrp2
import Derived.Test.YtgmkgfdjolchdaaGreatDoorQGrpR
import Derived.Test.YtgmkgfdjolchdaaGreatDoorQGrpGr
set_option maxRecDepth 100000
namespace Go.Proofs.YtgmkgfdjolchdaaGreatDoor.eng
open Go.RowKit num mem seg q held ratA ratB ratC ratD ratE vars ratF trq
section
variable {K : AV → Prop}
end
def intD (n:Int):List D:= [.v (.int .i64 n)]
section
variable {d : Nat → Rat}
end
end Go.Proofs.YtgmkgfdjolchdaaGreatDoor.eng
namespace Go.Proofs.YtgmkgfdjolchdaaGreatDoor.argopen
open Go.RowKit Go.ChangeShapes Go.WideShapes Go.ChangeAt num mem seg q eng
variable {H : Type} {enc : TypeId × Value → H} {w : World} {base : Nat} {sp : Nat → Bool} {held : Bool} {I : Nat → Prop}
def Rint (x:Int) (d:DataW H):Prop:=1≤Rows.uptoBulk d∧-9223372036854775808≤x∧x≤9223372036854775807
theorem Zmf {fuel:Nat} {cs:List Value} {x:DataW H×List MemPlace} (h:DataW.trod enc Tryz.prog w base sp held fuel 3 cs=some x):∃ a:Int,Rint a x.1∧Cells w I cs (eng.intD a):=by
 obtain⟨k,rfl,rfl,hw⟩:=DataW.trod_int Tryz.underlying3 h
 have:-9223372036854775808≤k∧k≤9223372036854775807:=by have:=hw;simp [Lit.wf,IntKind.min,IntKind.max,IntKind.signed,IntKind.bits] at this;omega
 exact⟨k,⟨by simp only [Rows.uptoBulk];omega,this⟩,Cells.nil.cons (Den.v _ rfl)⟩
def intsZ (l:List Int) (B:Nat):Prop:=l.length≤B∧∀ x,x∈l→-9223372036854775808≤x∧x≤9223372036854775807
theorem ZhP {l:List Int} {B C:Nat} (h:intsZ l B) (hB:B≤C):intsZ l C:=⟨Nat.le_trans h.1 hB,h.2⟩
theorem Zd3 {r:Reach} {b0:Nat} {v:Value} {d:DataW H} {ps:List MemPlace} (hval:Value.okWide Tryz.prog w r b0 22 v) (hd:DataW.Trod enc Tryz.prog w base sp held 22 v d ps) (hI:∀ b,b< w.heap.size→I b):
  ∃ l:List Int,Den w I v (.list (l.map eng.intD))∧intsZ l (Rows.uptoBulk d):=by
 obtain⟨av,len,cap,rfl⟩:=okWide_slice Tryz.underlying22 hval
 obtain⟨fuel,hf⟩:=hd
 obtain⟨v,l,ds,g2,hdl,hr,hx⟩:=ZkY (R:=Rint) eng.intD ωd (fun _=>rfl) Tryz.underlying22 ωr (fun fuel cs x h=>Zmf h) hI hf
 obtain⟨h1,h2,h3⟩:=ZlT (d:=d) hr hx fun a x h=>h.1
 obtain rfl:=(List.cons.inj g2).1
 exact⟨l,hdl,ω,fun k hk=>by obtain⟨x,⟨_,a⟩,g⟩:=h3 k hk;exact a⟩
end Go.Proofs.YtgmkgfdjolchdaaGreatDoor.argopen
namespace Go.Proofs.YtgmkgfdjolchdaaGreatDoor.eng
open Go.RowKit num mem seg q held ratA ratB ratC
theorem Zfc (n:Int) (d:Nat) (hd:0< d):((n:Rat) / (d:Rat)).num=n / (Nat.gcd n.natAbs d:Int)∧((n:Rat) / (d:Rat)).den=d / Nat.gcd n.natAbs d:=by
 have hg:0< Nat.gcd n.natAbs d:=Nat.gcd_pos_of_pos_right _ hd
 obtain⟨m,hm⟩:(Nat.gcd n.natAbs d:Int) ∣ n:=Int.ofNat_dvd_left.2 (Nat.gcd_dvd_left _ _)
 obtain⟨e,he⟩:=Nat.gcd_dvd_right n.natAbs d
 have hgz:(Nat.gcd n.natAbs d:Int)≠0:=ω
 have hm2:n / (Nat.gcd n.natAbs d:Int)=m:=by
  conv=>lhs;lhs;rw [hm]
  exact Int.mul_ediv_cancel_left m hgz
 have he2:d / Nat.gcd n.natAbs d=e:=by
  conv=>lhs;lhs;rw [he]
  exact Nat.mul_div_cancel_left e hg
 have he0:e≠0:=by
  rintro rfl
  omega
 have hc:Nat.Coprime m.natAbs e:=by
  have h1:n.natAbs=Nat.gcd n.natAbs d*m.natAbs:=by
   conv=>lhs;rw [hm]
   rw [Int.natAbs_mul,Int.natAbs_natCast]
  have h2:=Nat.coprime_div_gcd_div_gcd hg
  rw [he2] at h2
  have h3:n.natAbs / Nat.gcd n.natAbs d=m.natAbs:=by
   conv=>lhs;lhs;rw [h1]
   exact Nat.mul_div_cancel_left _ hg
  rwa [h3] at h2
 have hq:(n:Rat) / (d:Rat)=⟨m,e,he0,hc⟩:=by
  have h1:(m:Rat) / (e:Rat)=⟨m,e,he0,hc⟩:=by rw [← Rat.mkRat_eq_div];exact Rat.mkRat_self ⟨m,e,he0,hc⟩
  rw [← h1]
  have e1:(n:Rat)=((Nat.gcd n.natAbs d:Nat):Rat)*(m:Rat):=by
   conv=>lhs;rw [hm]
   rw [Rat.intCast_mul];rfl
  have e2:(d:Rat)=((Nat.gcd n.natAbs d:Nat):Rat)*(e:Rat):=by
   conv=>lhs;rw [he]
   rw [Rat.natCast_mul]
  have hgq:((Nat.gcd n.natAbs d:Nat):Rat)≠0:=by
   intro h;have:=Rat.natCast_eq_zero_iff.1 h;omega
  have heq:(e:Rat)≠0:=by
   intro h;have:=Rat.natCast_eq_zero_iff.1 h;omega
  rw [e1,e2]
  grind
 rw [hq,hm2,he2]
 exact⟨rfl,rfl⟩
theorem Ztx (n:Int) (d:Nat) (hd:0< d):cn ((n:Rat) / (d:Rat))=⟨decide (n< 0),enc (n.natAbs / Nat.gcd n.natAbs d),enc (d / Nat.gcd n.natAbs d)⟩:=by
 obtain⟨h1,h2⟩:=Zfc n d hd
 have hg:0< Nat.gcd n.natAbs d:=Nat.gcd_pos_of_pos_right _ hd
 have hdv:Nat.gcd n.natAbs d ∣ n.natAbs:=Nat.gcd_dvd_left _ _
 unfold cn
 rw [h1,h2]
 have e1:(n / (Nat.gcd n.natAbs d:Int)).natAbs=n.natAbs / Nat.gcd n.natAbs d:=by
  rw [Int.natAbs_ediv_of_dvd (Int.ofNat_dvd_left.2 hdv),Int.natAbs_natCast]
 have e2:decide (n / (Nat.gcd n.natAbs d:Int)< 0)=decide (n< 0):=by
  refine decide_eq_decide.2 ⟨fun h=> ?_,fun h=>Int.ediv_neg_of_neg_of_pos h ω⟩
  by_cases g:n< 0
  ·exact g
  ·exact absurd h (by have:=Int.ediv_nonneg (a:=n) (b:=(Nat.gcd n.natAbs d:Int)) ω ω;omega)
 rw [e1,e2]
open Go.RowKit num mem seg q held ratA ratB ratC ratD ratE vars ratF natC natD natI sub32
section
variable {K : AV → Prop} {T : TypeId} {ox oy : Operand}
theorem ZpM (T:TypeId) (ox oy:Operand) (x y:Int) (hy:y≠0) (w:World):(do eqGuard .rem T ox oy (.int .i64 x) (.int .i64 y);binOp .rem T (.int .i64 x) (.int .i64 y):Sem Value).run Tryz.prog w= .ok (.int .i64 (x.tmod y)) w:=by
 have hg:eqGuard .rem T ox oy (.int .i64 x) (.int .i64 y)=pure ():=rfl
 rw [hg,binOp_rem]
 unfold Op.intDiv
 rw [if_neg hy]
 rfl
theorem Zu0 {x y:Int} (r:Int) (hy:y≠0) (hr:x.tmod y=r) (k:K (int r)):AskB .rem T ox oy (.int .i64 x) (.int .i64 y) K:=⟨_,⟨_,rfl,rfl,ZpM T ox oy x y hy⟩,by rw [hr];exact k⟩
theorem ZpP (T:TypeId) (ox oy:Operand) (x y r:Int) (hy:y≠0) (hr:IntKind.i64.wrap (x.tdiv y)=r) (w:World):(do eqGuard .quo T ox oy (.int .i64 x) (.int .i64 y);binOp .quo T (.int .i64 x) (.int .i64 y):Sem Value).run Tryz.prog w= .ok (.int .i64 r) w:=by
 have hb:Op.intDiv .quo .i64 x y=pure (.int .i64 r):=by
  unfold Op.intDiv
  rw [if_neg hy]
  show pure (Value.int .i64 (IntKind.i64.wrap (x.tdiv y)))=_
  rw [hr]
 rw [eqGuard_quo,binOp_quo,hb]
 rfl
theorem Zu3 {x y:Int} (r:Int) (hy:y≠0) (hr:IntKind.i64.wrap (x.tdiv y)=r) (k:K (int r)):AskB .quo T ox oy (.int .i64 x) (.int .i64 y) K:=⟨_,⟨_,rfl,rfl,ZpP T ox oy x y r hy hr⟩,k⟩
end
def stD (n:Int):List D:= [D.v (.int .i64 n)]
def nextV (l:List Int) (n:Int):Int:=match l with
 | []=>0
 |x :: _=>if n< 1 then 0 else x % n
def nextL (l:List Int) (n:Int):List Int:=match l with
 | []=> []
 |x :: r=>if n< 1 then x :: r else r
theorem Zqk {l:List Int} {n:Int} (h:1≤n):0≤nextV l n∧nextV l n< n:=by
 unfold nextV
 split
 ·omega
 ·rw [if_neg ω]
  exact⟨Int.emod_nonneg _ ω,Int.emod_lt_of_pos _ ω⟩
theorem Zq8 {x n:Int} (hn:1≤n):(if x.tmod n< 0 then x.tmod n+n else x.tmod n)=x % n:=by
 have h1:=Int.emod_nonneg x (show n≠0 by omega)
 have h2:=Int.emod_lt_of_pos x (show 0< n by omega)
 rw [Int.tmod_eq_emod]
 by_cases hx:0≤x∨n ∣ x
 ·simp only [if_pos hx]
  split<;>omega
 ·simp only [if_neg hx]
  split<;>omega
end Go.Proofs.YtgmkgfdjolchdaaGreatDoor.eng
namespace Go.Proofs.YtgmkgfdjolchdaaGreatDoor.prf
open Go.Proofs.YtgmkgfdjolchdaaGreatDoor.eng Go.RowKit num mem seg q held ratA ratB ratC ratD ratE vars ratF
theorem get_ex {α:Type} {l:List α} {i:Nat} (h:i< l.length) {G:Prop} (k:∀ x,l[i]? =some x→G):G:=k _ (List.getElem?_eq_getElem h)
end Go.Proofs.YtgmkgfdjolchdaaGreatDoor.prf
namespace Go.Proofs.YtgmkgfdjolchdaaGreatDoor.eng
open Go.RowKit num mem seg q held ratA ratB ratC ratD ratE vars ratF prf natC natD natI sub32
section
variable {K : AV → Prop}
theorem Zfr (x n:Int) (_:-9223372036854775808≤x∧x≤9223372036854775807) (hn:1≤n∧n≤1073741824):Spec Tryz.prog Tab 10 [int x,int n] (int (x % n)):=by
 have hb:=Zq8 (x:=x) hn.1
 have ht1:-n< x.tmod n∧x.tmod n< n:=⟨Int.lt_tmod_of_pos x ω,Int.tmod_lt_of_pos x ω⟩
 refine Za Tryz.func10 rfl rfl Tryz.ntmps10 rfl ωr rfl rfl ?_
 refine Zu0 (x.tmod n) ω rfl ?_
 refine⟨fun e1=> ?_,fun e1=> ?_⟩
 ·have f9:x.tmod n< 0:=of_decide_eq_true e1
  refine Eq.trans (b:=int (IntKind.i64.wrap ((x.tmod n)+n))) ?_ rfl
  rw [← hb,if_pos f9,wrap64 _ ω ω]
 ·have f9:¬ (x.tmod n< 0):=of_decide_eq_false e1
  refine Eq.trans (b:=int (x.tmod n)) ?_ rfl
  rw [← hb,if_neg f9]
theorem ZtV (l:List Int) (h:l= []) (n:Int):SpecV Tryz.prog Tab 56 [.val (.one (.ptr 1000 0)),int n] 78 [D.list (List.map stD l)] (int 0) [D.list (List.map stD l)]:=by
 refine fn_V 0 [] Tryz.func56 rfl rfl Tryz.ntmps56 rfl ωr rfl rfl rfl ?_
 refine fork (fun e1=> ?_) (fun e1=> ?_)
 ·have f12:((List.map stD l).length:Int)=0:=ZJ e1
  refine⟨fun _=> ?_,fun e=>absurd e ωd⟩
  refine⟨Eq.trans (b:=int 0) ?_ rfl,rfl,?_⟩
  rfl
  rfl
 ·have f12:¬ (((List.map stD l).length:Int)=0):=ZK e1
  exfalso
  exact f12 (by rw [h];rfl)
theorem ZtU (x:Int) (l m:List Int) (hm:m=x :: l) (n:Int) (hx:-9223372036854775808≤x∧x≤9223372036854775807) (hn:1≤n∧n≤1073741824):SpecV Tryz.prog Tab 56 [.val (.one (.ptr 1000 0)),int n] 78 [D.list (List.map stD m)] (int (x % n)) [D.list (List.map stD (m.drop 1))]:=by
 have hml:(List.map stD m).length=l.length+1:=by rw [hm];simp
 have hml2:m.length=l.length+1:=by rw [hm];simp
 refine fn_V 0 [] Tryz.func56 rfl rfl Tryz.ntmps56 rfl ωr rfl rfl rfl ?_
 refine fork (fun e1=> ?_) (fun e1=> ?_)
 ·have f12:((List.map stD m).length:Int)=0:=ZJ e1
  exfalso
  omega
 ·have f12:¬ (((List.map stD m).length:Int)=0):=ZK e1
  refine⟨fun e2=> ?_,fun e2=> ?_⟩
  ·have f15:n< 1:=of_decide_eq_true e2
   exfalso
   omega
  ·have f15:¬ (n< 1):=of_decide_eq_false e2
   refine get_ex (l:=m) (i:=0) ωm fun x20 hx20=> ?_
   have ex:x20=x:=by
    rw [hm] at hx20
    exact(Option.some.inj hx20).symm
   refine k_ix 0 [D.v (.int .i64 (x20))] ωf (Ze hx20) rfl ?_
   refine ZrR 1 (List.map stD (m.drop 1)) (by first|omega|(simp;omega)|simp) ωf (Zf1 fun _=>rfl) (List.map_drop.symm) ?_
   refine use (Zfr x20 n ω ω) rfl ?_
   refine⟨Eq.trans (b:=int (x20 % n)) ?_ rfl,rfl,?_⟩
   rw [ex]
   rfl
theorem Zgj (n:Int) (d:Nat) (hn:-256< n∧n< 256) (hd:1≤d∧d< 256):Spec Tryz.prog Tab 49 [int n,int (d:Int)] (rat (cn ((n:Rat) / (d:Rat)))):=by
 refine Za Tryz.func49 rfl rfl Tryz.ntmps49 rfl ωr rfl rfl ?_
 refine⟨Nat×Nat,fun (a,b)=> [(0,int n),(1,int (d:Int)),(4,.val (.one (.ptr 4 0))),(5,int (a:Int)),(6,int (b:Int))],
  fun (a,b)=> [(4,.var 25 [.d (.v (.bool z0.s)),.d (.v (.string z0.a)),.d (.v (.string z0.d))])],fun (a,b)=>Nat.gcd a b=Nat.gcd n.natAbs d∧a< 256∧b< 256∧(0< a∨0< b),fun (a,b)=>b,(n.natAbs,d),?_,⟨rfl,ω,ω,.inr ω⟩,fun s hs=> ?_⟩
 ·constructor<;>(repeat' (first|exact rfl|exact True.intro|exact⟨_,_,rfl⟩|exact ωd|apply And.intro))
  all_goals first
   |exact congrArg (fun n:Int=>D.v (.int .i64 n)) (by rw [wrap64 _ ω ω];split<;>omega)
 obtain⟨a,b⟩:=s
 obtain⟨g1,g2,g3,g4⟩:=hs
 refine⟨fun e1=> ?_,fun e1=> ?_⟩
 ·have f13:(b:Int) >0:=of_decide_eq_true e1
  refine Zn6 a b ωf ωf ω ?_
  refine⟨ωr,?_⟩
  refine⟨(b,a % b),⟨by rw [← g1,Nat.gcd_comm a b,Nat.gcd_comm b (a % b)];exact(Nat.gcd_rec b a).symm,g3,by have:=Nat.mod_lt a (show 0< b by omega);omega,.inl ω⟩,by have:=Nat.mod_lt a (show 0< b by omega);simp only;omega,?_⟩
  constructor<;>(repeat' (first|exact rfl|exact True.intro|apply And.intro))
  all_goals first
   |exact ωb
   |exact ωa
 ·have f13:¬ ((b:Int) >0):=of_decide_eq_false e1
  obtain rfl:b=0:=ω
  rw [Nat.gcd_zero_right] at g1
  have ha:0< a:=ω
  have hdn:a ∣ n.natAbs:=by rw [g1];exact Nat.gcd_dvd_left _ _
  have hdv:(a:Int) ∣ n:=Int.ofNat_dvd_left.2 hdn
  have hqa:(n / (a:Int)).natAbs=n.natAbs / a:=by rw [Int.natAbs_ediv_of_dvd hdv,Int.natAbs_natCast]
  have hq1:=Nat.div_le_self n.natAbs a
  have hq2:=Nat.div_le_self d a
  have hsg:decide (n / (a:Int)< 0)=decide (n< 0):=by
   refine decide_eq_decide.2 ⟨fun h=> ?_,fun h=>Int.ediv_neg_of_neg_of_pos h ω⟩
   by_cases g:n< 0
   ·exact g
   ·exact absurd h (by have:=Int.ediv_nonneg (a:=n) (b:=(a:Int)) ω ω;omega)
  refine Zu3 (n / (a:Int)) ω (by rw [Int.tdiv_eq_ediv_of_dvd hdv,wrap64 _ ω ω]) ?_
  refine Zu4 d a ωf ωf ω ω ?_
  refine⟨ωr,?_⟩
  refine Zkg (n.natAbs / a) (by rw [wrap64 _ ω ω,← hqa];split<;>omega) ω ?_
  refine Zkg (d / a) rfl ω ?_
  refine Eq.trans (b:= .val (.agg [.d (.v (.bool (decide (n / (a:Int)< 0)))),.d (.v (.string (enc (n.natAbs / a)))),.d (.v (.string (enc (d / a))))])) ?_ rfl
  rw [Ztx n d ω,← g1,hsg]
  rfl
end
