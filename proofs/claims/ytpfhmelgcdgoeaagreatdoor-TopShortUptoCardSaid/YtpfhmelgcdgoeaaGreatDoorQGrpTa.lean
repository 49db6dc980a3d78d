/- Joined by wip/bundle.py: XSayA XRoa0 XOpenI XFrac XTop0 XPrf0 XTopA XTopB. -/
import Derived.Test.YtpfhmelgcdgoeaaGreatDoorQGrp3
import Derived.Test.YtpfhmelgcdgoeaaGreatDoorQGrpGr
set_option maxRecDepth 100000
open List (map)
namespace Go.Proofs.YtpfhmelgcdgoeaaGreatDoor.eng
open Go.RowKit num mem seg q held ratA ratB ratC ratD ratE vars ratF trq
section
variable {K : AV → Prop}
end
def intD (n:Int):List D:= [.v (.int .i64 n)]
section
variable {d : Nat → Rat}
end
end Go.Proofs.YtpfhmelgcdgoeaaGreatDoor.eng
namespace Go.Proofs.YtpfhmelgcdgoeaaGreatDoor.argopen
open Go.RowKit Go.ChangeShapes Go.WideShapes Go.ChangeAt num mem seg q eng
variable {H : Type} {enc : TypeId × Value → H} {w : World} {base : Nat} {sp : Nat → Bool} {held : Bool} {I : Nat → Prop}
def Rint (x:Int) (d:DataW H):Prop:=1≤Rows.uptoBulk d∧-9223372036854775808≤x∧x≤9223372036854775807
theorem ZmH {fuel:Nat} {cs:List Value} {x:DataW H×List MemPlace} (h:DataW.trod enc Tryz.prog w base sp held fuel 3 cs=some x):∃ a:Int,Rint a x.1∧Cells w I cs (eng.intD a):=by
 obtain⟨k,rfl,rfl,hw⟩:=DataW.trod_int Tryz.underlying3 h
 have:-9223372036854775808≤k∧k≤9223372036854775807:=by have:=hw;simp [Lit.wf,IntKind.min,IntKind.max,IntKind.signed,IntKind.bits] at this;omega
 exact⟨k,⟨by simp only [Rows.uptoBulk];omega,this⟩,Cells.nil.cons (Den.v _ rfl)⟩
def intsZ (l:List Int) (B:Nat):Prop:=l.length≤B∧∀ x,x∈l→-9223372036854775808≤x∧x≤9223372036854775807
theorem ZhY {l:List Int} {B C:Nat} (h:intsZ l B) (hB:B≤C):intsZ l C:=⟨Nat.le_trans h.1 hB,h.2⟩
theorem Zef {r:Reach} {b0:Nat} {v:Value} {d:DataW H} {ps:List MemPlace} (hval:Value.okWide Tryz.prog w r b0 22 v) (hd:DataW.Trod enc Tryz.prog w base sp held 22 v d ps) (hI:∀ b,b< w.heap.size→I b):
  ∃ l:List Int,Den w I v (.list (l.map eng.intD))∧intsZ l (Rows.uptoBulk d):=by
 obtain⟨av,len,cap,rfl⟩:=okWide_slice Tryz.underlying22 hval
 obtain⟨fuel,hf⟩:=hd
 obtain⟨v,l,ds,g2,hdl,hr,hx⟩:=Zle (R:=Rint) eng.intD ωd (fun _=>rfl) Tryz.underlying22 ωr (fun fuel cs x h=>ZmH h) hI hf
 obtain⟨h1,h2,h3⟩:=Zmf (d:=d) hr hx fun a x h=>h.1
 obtain rfl:=(List.cons.inj g2).1
 exact⟨l,hdl,ω,fun k hk=>by obtain⟨x,⟨_,a⟩,g⟩:=h3 k hk;exact a⟩
end Go.Proofs.YtpfhmelgcdgoeaaGreatDoor.argopen
namespace Go.Proofs.YtpfhmelgcdgoeaaGreatDoor.eng
open Go.RowKit num mem seg q held ratA ratB ratC
theorem Zft (n:Int) (d:Nat) (hd:0< d):((n:Rat) / (d:Rat)).num=n / (Nat.gcd n.natAbs d:Int)∧((n:Rat) / (d:Rat)).den=d / Nat.gcd n.natAbs d:=by
 have hg:0< Nat.gcd n.natAbs d:=Nat.gcd_pos_of_pos_right _ hd
 obtain⟨m,hm⟩:(Nat.gcd n.natAbs d:Int) ∣ n:=Int.ofNat_dvd_left.2 (Nat.gcd_dvd_left _ _)
 obtain⟨e,he⟩:=Nat.gcd_dvd_right n.natAbs d
 have hgz:(Nat.gcd n.natAbs d:Int)≠0:=ω
 have hm2:n / (Nat.gcd n.natAbs d:Int)=m:=by
  conv=>lhs;lhs;rw [hm]
  exact Int.mul_ediv_cancel_left m hgz
 have he2:d / Nat.gcd n.natAbs d=e:=by
  conv=>lhs;lhs;rw [he]
  exact Nat.mul_div_cancel_left e hg
 have he0:e≠0:=by
  rintro rfl
  omega
 have hc:Nat.Coprime m.natAbs e:=by
  have h1:n.natAbs=Nat.gcd n.natAbs d*m.natAbs:=by
   conv=>lhs;rw [hm]
   rw [Int.natAbs_mul,Int.natAbs_natCast]
  have h2:=Nat.coprime_div_gcd_div_gcd hg
  rw [he2] at h2
  have h3:n.natAbs / Nat.gcd n.natAbs d=m.natAbs:=by
   conv=>lhs;lhs;rw [h1]
   exact Nat.mul_div_cancel_left _ hg
  rwa [h3] at h2
 have hq:(n:Rat) / (d:Rat)=⟨m,e,he0,hc⟩:=by
  have h1:(m:Rat) / (e:Rat)=⟨m,e,he0,hc⟩:=by rw [← Rat.mkRat_eq_div];exact Rat.mkRat_self ⟨m,e,he0,hc⟩
  rw [← h1]
  have e1:(n:Rat)=((Nat.gcd n.natAbs d:Nat):Rat)*(m:Rat):=by
   conv=>lhs;rw [hm]
   rw [Rat.intCast_mul];rfl
  have e2:(d:Rat)=((Nat.gcd n.natAbs d:Nat):Rat)*(e:Rat):=by
   conv=>lhs;rw [he]
   rw [Rat.natCast_mul]
  have hgq:((Nat.gcd n.natAbs d:Nat):Rat)≠0:=by
   intro h;have:=Rat.natCast_eq_zero_iff.1 h;omega
  have heq:(e:Rat)≠0:=by
   intro h;have:=Rat.natCast_eq_zero_iff.1 h;omega
  rw [e1,e2]
  grind
 rw [hq,hm2,he2]
 exact⟨rfl,rfl⟩
theorem Zuj (n:Int) (d:Nat) (hd:0< d):cn ((n:Rat) / (d:Rat))=⟨decide (n< 0),enc (n.natAbs / Nat.gcd n.natAbs d),enc (d / Nat.gcd n.natAbs d)⟩:=by
 obtain⟨h1,h2⟩:=Zft n d hd
 have hg:0< Nat.gcd n.natAbs d:=Nat.gcd_pos_of_pos_right _ hd
 have hdv:Nat.gcd n.natAbs d ∣ n.natAbs:=Nat.gcd_dvd_left _ _
 unfold cn
 rw [h1,h2]
 have e1:(n / (Nat.gcd n.natAbs d:Int)).natAbs=n.natAbs / Nat.gcd n.natAbs d:=by
  rw [Int.natAbs_ediv_of_dvd (Int.ofNat_dvd_left.2 hdv),Int.natAbs_natCast]
 have e2:decide (n / (Nat.gcd n.natAbs d:Int)< 0)=decide (n< 0):=by
  refine decide_eq_decide.2 ⟨fun h=> ?_,fun h=>Int.ediv_neg_of_neg_of_pos h ω⟩
  by_cases g:n< 0
  ·exact g
  ·exact absurd h (by have:=Int.ediv_nonneg (a:=n) (b:=(Nat.gcd n.natAbs d:Int)) ω ω;omega)
 rw [e1,e2]
open Go.RowKit num mem seg q held ratA ratB ratC ratD ratE vars ratF natC natD natI sub32
section
variable {K : AV → Prop} {T : TypeId} {ox oy : Operand}
theorem Zqu (T:TypeId) (ox oy:Operand) (x y:Int) (hy:y≠0) (w:World):(do eqGuard .rem T ox oy (.int .i64 x) (.int .i64 y);binOp .rem T (.int .i64 x) (.int .i64 y):Sem Value).run Tryz.prog w= .ok (.int .i64 (x.tmod y)) w:=by
 have hg:eqGuard .rem T ox oy (.int .i64 x) (.int .i64 y)=pure ():=rfl
 rw [hg,binOp_rem]
 unfold Op.intDiv
 rw [if_neg hy]
 rfl
theorem ZvL {x y:Int} (r:Int) (hy:y≠0) (hr:x.tmod y=r) (k:K (int r)):AskB .rem T ox oy (.int .i64 x) (.int .i64 y) K:=⟨_,⟨_,rfl,rfl,Zqu T ox oy x y hy⟩,by rw [hr];exact k⟩
theorem Zqx (T:TypeId) (ox oy:Operand) (x y r:Int) (hy:y≠0) (hr:IntKind.i64.wrap (x.tdiv y)=r) (w:World):(do eqGuard .quo T ox oy (.int .i64 x) (.int .i64 y);binOp .quo T (.int .i64 x) (.int .i64 y):Sem Value).run Tryz.prog w= .ok (.int .i64 r) w:=by
 have hb:Op.intDiv .quo .i64 x y=pure (.int .i64 r):=by
  unfold Op.intDiv
  rw [if_neg hy]
  show pure (Value.int .i64 (IntKind.i64.wrap (x.tdiv y)))=_
  rw [hr]
 rw [eqGuard_quo,binOp_quo,hb]
 rfl
theorem ZvO {x y:Int} (r:Int) (hy:y≠0) (hr:IntKind.i64.wrap (x.tdiv y)=r) (k:K (int r)):AskB .quo T ox oy (.int .i64 x) (.int .i64 y) K:=⟨_,⟨_,rfl,rfl,Zqx T ox oy x y r hy hr⟩,k⟩
end
def stD (n:Int):List D:= [D.v (.int .i64 n)]
def nextV (l:List Int) (n:Int):Int:=match l with
 | []=>0
 |x :: _=>if n< 1 then 0 else x % n
def nextL (l:List Int) (n:Int):List Int:=match l with
 | []=> []
 |x :: r=>if n< 1 then x :: r else r
theorem ZcG {l:List Int} {n:Int} (h:1≤n):0≤nextV l n∧nextV l n< n:=by
 unfold nextV
 split
 ·omega
 ·rw [if_neg ω]
  exact⟨Int.emod_nonneg _ ω,Int.emod_lt_of_pos _ ω⟩
theorem Zbg {l:List Int} {n x:Int} (h:x∈nextL l n):x∈l:=by
 unfold nextL at h
 split at h
 ·exact h
 ·split at h
  ·exact h
  ·exact List.mem_cons_of_mem _ h
theorem ZrC {x n:Int} (hn:1≤n):(if x.tmod n< 0 then x.tmod n+n else x.tmod n)=x % n:=by
 have h1:=Int.emod_nonneg x (show n≠0 by omega)
 have h2:=Int.emod_lt_of_pos x (show 0< n by omega)
 rw [Int.tmod_eq_emod]
 by_cases hx:0≤x∨n ∣ x
 ·simp only [if_pos hx]
  split<;>omega
 ·simp only [if_neg hx]
  split<;>omega
end Go.Proofs.YtpfhmelgcdgoeaaGreatDoor.eng
namespace Go.Proofs.YtpfhmelgcdgoeaaGreatDoor.prf
open Go.Proofs.YtpfhmelgcdgoeaaGreatDoor.eng Go.RowKit num mem seg q held ratA ratB ratC ratD ratE vars ratF
theorem get_ex {α:Type} {l:List α} {i:Nat} (h:i< l.length) {G:Prop} (k:∀ x,l[i]? =some x→G):G:=k _ (List.getElem?_eq_getElem h)
end Go.Proofs.YtpfhmelgcdgoeaaGreatDoor.prf
namespace Go.Proofs.YtpfhmelgcdgoeaaGreatDoor.eng
open Go.RowKit num mem seg q held ratA ratB ratC ratD ratE vars ratF prf natC natD natI sub32
section
variable {K : AV → Prop}
theorem Zmm (x n:Int) (_:-9223372036854775808≤x∧x≤9223372036854775807) (hn:1≤n∧n≤1073741824):Spec Tryz.prog Tab 20 [int x,int n] (int (x % n)):=by
 have hb:=ZrC (x:=x) hn.1
 have ht1:-n< x.tmod n∧x.tmod n< n:=⟨Int.lt_tmod_of_pos x ω,Int.tmod_lt_of_pos x ω⟩
 refine Za Tryz.func20 rfl rfl Tryz.ntmps20 rfl ωr rfl rfl ?_
 refine ZvL (x.tmod n) ω rfl ?_
 refine⟨fun e1=> ?_,fun e1=> ?_⟩
 ·have f9:x.tmod n< 0:=of_decide_eq_true e1
  refine Eq.trans (b:=int (IntKind.i64.wrap ((x.tmod n)+n))) ?_ rfl
  rw [← hb,if_pos f9,wrap64 _ ω ω]
 ·have f9:¬ (x.tmod n< 0):=of_decide_eq_false e1
  refine Eq.trans (b:=int (x.tmod n)) ?_ rfl
  rw [← hb,if_neg f9]
theorem ZuE (l:List Int) (h:l= []) (n:Int):SpecV Tryz.prog Tab 6 [.val (.one (.ptr 1000 0)),int n] 38 [D.list (map stD l)] (int 0) [D.list (map stD l)]:=by
 refine fn_V 0 [] Tryz.func6 rfl rfl Tryz.ntmps6 rfl ωr rfl rfl rfl ?_
 refine fork (fun e1=> ?_) (fun e1=> ?_)
 ·have f12:((map stD l).length:Int)=0:=ZB e1
  refine⟨fun _=> ?_,fun e=>absurd e ωd⟩
  refine⟨Eq.trans (b:=int 0) ?_ rfl,rfl,?_⟩
  rfl
  rfl
 ·have f12:¬ (((map stD l).length:Int)=0):=ZC e1
  exfalso
  exact f12 (by rw [h];rfl)
theorem ZuD (x:Int) (l m:List Int) (hm:m=x :: l) (n:Int) (hx:-9223372036854775808≤x∧x≤9223372036854775807) (hn:1≤n∧n≤1073741824):SpecV Tryz.prog Tab 6 [.val (.one (.ptr 1000 0)),int n] 38 [D.list (map stD m)] (int (x % n)) [D.list (map stD (m.drop 1))]:=by
 have hml:(map stD m).length=l.length+1:=by rw [hm];simp
 have hml2:m.length=l.length+1:=by rw [hm];simp
 refine fn_V 0 [] Tryz.func6 rfl rfl Tryz.ntmps6 rfl ωr rfl rfl rfl ?_
 refine fork (fun e1=> ?_) (fun e1=> ?_)
 ·have f12:((map stD m).length:Int)=0:=ZB e1
  exfalso
  omega
 ·have f12:¬ (((map stD m).length:Int)=0):=ZC e1
  refine⟨fun e2=> ?_,fun e2=> ?_⟩
  ·have f15:n< 1:=of_decide_eq_true e2
   exfalso
   omega
  ·have f15:¬ (n< 1):=of_decide_eq_false e2
   refine get_ex (l:=m) (i:=0) ωm fun x20 hx20=> ?_
   have ex:x20=x:=by
    rw [hm] at hx20
    exact(Option.some.inj hx20).symm
   refine k_ix 0 [D.v (.int .i64 (x20))] ωf (Zc hx20) rfl ?_
   refine ZoR 1 (map stD (m.drop 1)) (by first|omega|(simp;omega)|simp) ωf (Zgg fun _=>rfl) (List.map_drop.symm) ?_
   refine use (Zmm x20 n ω ω) rfl ?_
   refine⟨Eq.trans (b:=int (x20 % n)) ?_ rfl,rfl,?_⟩
   rw [ex]
   rfl
theorem Zgy (n:Int) (d:Nat) (hn:-256< n∧n< 256) (hd:1≤d∧d< 256):Spec Tryz.prog Tab 39 [int n,int (d:Int)] (rat (cn ((n:Rat) / (d:Rat)))):=by
 refine Za Tryz.func39 rfl rfl Tryz.ntmps39 rfl ωr rfl rfl ?_
 refine⟨Nat×Nat,fun (a,b)=> [(0,int n),(1,int (d:Int)),(4,.val (.one (.ptr 4 0))),(5,int (a:Int)),(6,int (b:Int))],
  fun (a,b)=> [(4,.var 25 [Xb z0,Xs z0,Xt z0])],fun (a,b)=>Nat.gcd a b=Nat.gcd n.natAbs d∧a< 256∧b< 256∧(0< a∨0< b),fun (a,b)=>b,(n.natAbs,d),?_,⟨rfl,ω,ω,.inr ω⟩,fun s hs=> ?_⟩
 ·constructor<;>(repeat' (first|exact rfl|exact True.intro|exact⟨_,_,rfl⟩|exact ωd|apply And.intro))
  all_goals first
   |exact congrArg (fun n:Int=>D.v (.int .i64 n)) (by rw [wrap64 _ ω ω];split<;>omega)
 obtain⟨a,b⟩:=s
 obtain⟨g1,g2,g3,g4⟩:=hs
 refine⟨fun e1=> ?_,fun e1=> ?_⟩
 ·have f13:(b:Int) >0:=of_decide_eq_true e1
  refine Zfl a b ωf ωf ω ?_
  refine⟨ωr,?_⟩
  refine⟨(b,a % b),⟨by rw [← g1,Nat.gcd_comm a b,Nat.gcd_comm b (a % b)];exact(Nat.gcd_rec b a).symm,g3,by have:=Nat.mod_lt a (show 0< b by omega);omega,.inl ω⟩,by have:=Nat.mod_lt a (show 0< b by omega);simp only;omega,?_⟩
  constructor<;>(repeat' (first|exact rfl|exact True.intro|apply And.intro))
  all_goals first
   |exact ωb
   |exact ωa
 ·have f13:¬ ((b:Int) >0):=of_decide_eq_false e1
  obtain rfl:b=0:=ω
  rw [Nat.gcd_zero_right] at g1
  have ha:0< a:=ω
  have hdn:a ∣ n.natAbs:=by rw [g1];exact Nat.gcd_dvd_left _ _
  have hdv:(a:Int) ∣ n:=Int.ofNat_dvd_left.2 hdn
  have hqa:(n / (a:Int)).natAbs=n.natAbs / a:=by rw [Int.natAbs_ediv_of_dvd hdv,Int.natAbs_natCast]
  have hq1:=Nat.div_le_self n.natAbs a
  have hq2:=Nat.div_le_self d a
  have hsg:decide (n / (a:Int)< 0)=decide (n< 0):=by
   refine decide_eq_decide.2 ⟨fun h=> ?_,fun h=>Int.ediv_neg_of_neg_of_pos h ω⟩
   by_cases g:n< 0
   ·exact g
   ·exact absurd h (by have:=Int.ediv_nonneg (a:=n) (b:=(a:Int)) ω ω;omega)
  refine ZvO (n / (a:Int)) ω (by rw [Int.tdiv_eq_ediv_of_dvd hdv,wrap64 _ ω ω]) ?_
  refine ZvP d a ωf ωf ω ω ?_
  refine⟨ωr,?_⟩
  refine Zkv (n.natAbs / a) (by rw [wrap64 _ ω ω,← hqa];split<;>omega) ω ?_
  refine Zkv (d / a) rfl ω ?_
  refine Eq.trans (b:= .val (.agg [.d (.v (.bool (decide (n / (a:Int)< 0)))),.d (.v (.string (enc (n.natAbs / a)))),.d (.v (.string (enc (d / a))))])) ?_ rfl
  rw [Zuj n d ω,← g1,hsg]
  rfl
end
open Go.RowKit num mem seg q held ratA ratB ratC ratD ratE vars ratF prf natC natD natI sub32
section
variable {K : AV → Prop}
theorem ZhV (l:List Int) (n:Int) (hl:∀ x,x∈l→-9223372036854775808≤x∧x≤9223372036854775807) (hn:1≤n∧n≤1073741824):SpecV Tryz.prog Tab 6 [.val (.one (.ptr 1000 0)),int n] 38 [D.list (map stD l)] (int (nextV l n)) [D.list (map stD (nextL l n))]:=by
 cases l with
 |nil=>exact ZuE [] rfl n
 |cons x l=>
  have h:=ZuD x l (x :: l) rfl n (hl x List.mem_cons_self) hn
  rw [show nextV (x :: l) n=x % n from if_neg ω,show nextL (x :: l) n=l from if_neg ω]
  exact h
def qtr (x:Int):Rat:=(x:Rat) / ((4:Nat):Rat)
theorem ZeJ (x y:Int) (hx:-256< x∧x< 256) (hy:-256< y∧y< 256):Spec Tryz.prog Tab 46 [int x,int y] (pair (cn (qtr x)) (cn (qtr y))):=by
 refine Za Tryz.func46 rfl rfl Tryz.ntmps46 rfl ωr rfl rfl ?_
 refine use (Zgy x 4 ω ωd) rfl ?_
 refine use (Zgy y 4 ω ωd) rfl ?_
 refine Eq.trans (b:=pair (cn (qtr x)) (cn (qtr y))) ?_ rfl
 rfl
theorem ZaR {K:AV→Prop} {x y:Int} (a b:Int) (hx:x=a) (hy:y=b) (ha:-256< a∧a< 256) (hb:-256< b∧b< 256) (k:K (pair (cn (qtr a)) (cn (qtr b)))):Ask 46 [int x,int y] K:=by subst hx hy;exact use (ZeJ x y ha hb) rfl k
def wM (l:List Int):Int:=1+nextV l 6
def hM (l:List Int):Int:=1+nextV (nextL l 6) 6
def l2M (l:List Int):List Int:=nextL (nextL l 6) 6
def l3M (l:List Int):List Int:=nextL (l2M l) 4
def cM (l:List Int):Int:=nextV (l2M l) 4
def vM (l:List Int):Int:=nextV (l3M l) (2*wM l+1) - wM l
def polyI (l:List Int):List (Int×Int):=
 if cM l=0 then [(-wM l,-hM l),(wM l,-hM l),(wM l,hM l),(-wM l,hM l)]
 else if cM l=1 then [(-wM l,-hM l),(wM l,-hM l),(vM l,hM l)]
 else if cM l=2 then [(-wM l - 1,-hM l - 1),(wM l,-hM l - 1),(wM l+1,-hM l),(wM l+1,hM l),(-wM l - 1,hM l)]
 else [(-wM l,0),(0,-hM l),(wM l,0),(0,hM l)]
def polyS (l:List Int):List Int:=if cM l=1 then nextL (l3M l) (2*wM l+1) else l3M l
def polyM (l:List Int):List (RV×RV):=(polyI l).map fun p=>(cn (qtr p.1),cn (qtr p.2))
theorem Zqa (l:List Int):1≤wM l∧wM l≤6:=by have:=ZcG (l:=l) (n:=6) ωd;unfold wM;omega
theorem Zt4 (l:List Int):1≤hM l∧hM l≤6:=by have:=ZcG (l:=nextL l 6) (n:=6) ωd;unfold hM;omega
theorem ZsW (l:List Int):-wM l≤vM l∧vM l≤wM l:=by have h:=Zqa l;have:=ZcG (l:=l3M l) (n:=2*wM l+1) ω;unfold vM;omega
set_option maxHeartbeats 2000000 in
theorem Zvo (l:List Int) (hl:∀ x,x∈l→-9223372036854775808≤x∧x≤9223372036854775807):SpecV Tryz.prog Tab 54 [.val (.one (.ptr 1000 0))] 38 [D.list (map stD l)] (Xl rdv (polyM l)) [D.list (map stD (polyS l))]:=by
 have hwb:=Zqa l
 have hhb:=Zt4 l
 have hvb:=ZsW l
 have hw7:IntKind.i64.wrap (1+nextV l 6)=wM l:=by unfold wM at*;exact wrap64 _ ω ω
 have hw10:IntKind.i64.wrap (1+nextV (nextL l 6) 6)=hM l:=by unfold hM at*;exact wrap64 _ ω ω
 have hn7:IntKind.i64.wrap (0 - (IntKind.i64.wrap (1+nextV l 6)))=-wM l:=by rw [hw7,wrap64 _ ω ω];omega
 have hn10:IntKind.i64.wrap (0 - (IntKind.i64.wrap (1+nextV (nextL l 6) 6)))=-hM l:=by rw [hw10,wrap64 _ ω ω];omega
 have hp7:IntKind.i64.wrap (IntKind.i64.wrap (1+nextV l 6)+1)=wM l+1:=by rw [hw7,wrap64 _ ω ω]
 have hm7:IntKind.i64.wrap (IntKind.i64.wrap (0 - (IntKind.i64.wrap (1+nextV l 6))) - 1)=-wM l - 1:=by rw [hn7,wrap64 _ ω ω]
 have hm10:IntKind.i64.wrap (IntKind.i64.wrap (0 - (IntKind.i64.wrap (1+nextV (nextL l 6) 6))) - 1)=-hM l - 1:=by rw [hn10,wrap64 _ ω ω]
 refine fn_V 0 [800006,800009,800012,800047] Tryz.func54 rfl rfl Tryz.ntmps54 rfl ωr rfl rfl rfl ?_
 refine⟨int (nextV l 6), [D.list (map stD (nextL l 6))],⟨⟨rfl,rfl⟩,ZhV l 6 hl ω⟩,?_⟩
 refine⟨int (nextV (nextL l 6) 6), [D.list (map stD (nextL (nextL l 6) 6))],⟨⟨rfl,rfl⟩,ZhV (nextL l 6) 6 (fun x h=>hl x (Zbg h)) ω⟩,?_⟩
 refine⟨int (nextV (nextL (nextL l 6) 6) 4), [D.list (map stD (nextL (nextL (nextL l 6) 6) 4))],⟨⟨rfl,rfl⟩,ZhV (nextL (nextL l 6) 6) 4 (fun x h=>hl x (Zbg (Zbg h))) ω⟩,?_⟩
 refine⟨fun e1=> ?_,fun e1=> ?_⟩
 ·have f13:nextV (nextL (nextL l 6) 6) 4=0:=ZB e1
  have c13:cM l=0:=f13
  refine ZaR (-wM l) (-hM l) (by first|rfl|exact hw7|exact hw10|exact hn7|exact hn10|exact hp7|exact hm7|exact hm10|exact hv) (by first|rfl|exact hw7|exact hw10|exact hn7|exact hn10|exact hp7|exact hm7|exact hm10|exact hv) ω ω ?_
  refine ZaR (wM l) (-hM l) (by first|rfl|exact hw7|exact hw10|exact hn7|exact hn10|exact hp7|exact hm7|exact hm10|exact hv) (by first|rfl|exact hw7|exact hw10|exact hn7|exact hn10|exact hp7|exact hm7|exact hm10|exact hv) ω ω ?_
  refine ZaR (wM l) (hM l) (by first|rfl|exact hw7|exact hw10|exact hn7|exact hn10|exact hp7|exact hm7|exact hm10|exact hv) (by first|rfl|exact hw7|exact hw10|exact hn7|exact hn10|exact hp7|exact hm7|exact hm10|exact hv) ω ω ?_
  refine ZaR (-wM l) (hM l) (by first|rfl|exact hw7|exact hw10|exact hn7|exact hn10|exact hp7|exact hm7|exact hm10|exact hv) (by first|rfl|exact hw7|exact hw10|exact hn7|exact hn10|exact hp7|exact hm7|exact hm10|exact hv) ω ω ?_
  refine⟨Eq.trans (b:= .val (.one (.d (.list ([[Yb (cn (qtr (-wM l))),Ys (cn (qtr (-wM l))),Yt (cn (qtr (-wM l))),Yb (cn (qtr (-hM l))),Ys (cn (qtr (-hM l))),Yt (cn (qtr (-hM l)))], [Yb (cn (qtr (wM l))),Ys (cn (qtr (wM l))),Yt (cn (qtr (wM l))),Yb (cn (qtr (-hM l))),Ys (cn (qtr (-hM l))),Yt (cn (qtr (-hM l)))], [Yb (cn (qtr (wM l))),Ys (cn (qtr (wM l))),Yt (cn (qtr (wM l))),Yb (cn (qtr (hM l))),Ys (cn (qtr (hM l))),Yt (cn (qtr (hM l)))], [Yb (cn (qtr (-wM l))),Ys (cn (qtr (-wM l))),Yt (cn (qtr (-wM l))),Yb (cn (qtr (hM l))),Ys (cn (qtr (hM l))),Yt (cn (qtr (hM l)))]]))))) ?_ rfl,rfl,?_⟩
  unfold polyM polyI
  rw [if_pos c13]
  rfl
  rw [show polyS l=l3M l from if_neg (fun h=>ω)]
  rfl
 ·have f13:¬ (nextV (nextL (nextL l 6) 6) 4=0):=ZC e1
  have c13:¬ cM l=0:=f13
  refine⟨fun e2=> ?_,fun e2=> ?_⟩
  ·have f32:nextV (nextL (nextL l 6) 6) 4=1:=ZB e2
   have c32:cM l=1:=f32
   refine ZaR (-wM l) (-hM l) (by first|rfl|exact hw7|exact hw10|exact hn7|exact hn10|exact hp7|exact hm7|exact hm10|exact hv) (by first|rfl|exact hw7|exact hw10|exact hn7|exact hn10|exact hp7|exact hm7|exact hm10|exact hv) ω ω ?_
   refine ZaR (wM l) (-hM l) (by first|rfl|exact hw7|exact hw10|exact hn7|exact hn10|exact hp7|exact hm7|exact hm10|exact hv) (by first|rfl|exact hw7|exact hw10|exact hn7|exact hn10|exact hp7|exact hm7|exact hm10|exact hv) ω ω ?_
   have hw47:IntKind.i64.wrap ((IntKind.i64.wrap (2*(IntKind.i64.wrap (1+(nextV l 6)))))+1)=2*wM l+1:=by rw [hw7,wrap64 (2*wM l) ω ω,wrap64 _ ω ω]
   have hnx:=ZhV (l3M l) (2*wM l+1) (fun x h=>hl x (Zbg (Zbg (Zbg h)))) ω
   rw [← hw47] at hnx
   have hbd:=ZcG (l:=l3M l) (n:=2*wM l+1) ω
   have hv:IntKind.i64.wrap (nextV (l3M l) (IntKind.i64.wrap ((IntKind.i64.wrap (2*(IntKind.i64.wrap (1+(nextV l 6)))))+1)) - (IntKind.i64.wrap (1+nextV l 6)))=vM l:=by rw [hw47,hw7];exact wrap64 _ ω ω
   refine⟨int (nextV (l3M l) (IntKind.i64.wrap ((IntKind.i64.wrap (2*(IntKind.i64.wrap (1+(nextV l 6)))))+1))), [D.list (map stD (nextL (l3M l) (IntKind.i64.wrap ((IntKind.i64.wrap (2*(IntKind.i64.wrap (1+(nextV l 6)))))+1))))],⟨⟨rfl,rfl⟩,hnx⟩,?_⟩
   refine ZaR (vM l) (hM l) (by first|rfl|exact hw7|exact hw10|exact hn7|exact hn10|exact hp7|exact hm7|exact hm10|exact hv) (by first|rfl|exact hw7|exact hw10|exact hn7|exact hn10|exact hp7|exact hm7|exact hm10|exact hv) ω ω ?_
   refine⟨Eq.trans (b:= .val (.one (.d (.list ([[Yb (cn (qtr (-wM l))),Ys (cn (qtr (-wM l))),Yt (cn (qtr (-wM l))),Yb (cn (qtr (-hM l))),Ys (cn (qtr (-hM l))),Yt (cn (qtr (-hM l)))], [Yb (cn (qtr (wM l))),Ys (cn (qtr (wM l))),Yt (cn (qtr (wM l))),Yb (cn (qtr (-hM l))),Ys (cn (qtr (-hM l))),Yt (cn (qtr (-hM l)))], [Yb (cn (qtr (vM l))),Ys (cn (qtr (vM l))),Yt (cn (qtr (vM l))),Yb (cn (qtr (hM l))),Ys (cn (qtr (hM l))),Yt (cn (qtr (hM l)))]]))))) ?_ rfl,rfl,?_⟩
   unfold polyM polyI
   rw [if_neg c13,if_pos c32]
   rfl
   rw [show polyS l=nextL (l3M l) (2*wM l+1) from if_pos c32,← hw47]
   rfl
  ·have f32:¬ (nextV (nextL (nextL l 6) 6) 4=1):=ZC e2
   have c32:¬ cM l=1:=f32
   refine⟨fun e3=> ?_,fun e3=> ?_⟩
   ·have f53:nextV (nextL (nextL l 6) 6) 4=2:=ZB e3
    have c53:cM l=2:=f53
    refine ZaR (-wM l - 1) (-hM l - 1) (by first|rfl|exact hw7|exact hw10|exact hn7|exact hn10|exact hp7|exact hm7|exact hm10|exact hv) (by first|rfl|exact hw7|exact hw10|exact hn7|exact hn10|exact hp7|exact hm7|exact hm10|exact hv) ω ω ?_
    refine ZaR (wM l) (-hM l - 1) (by first|rfl|exact hw7|exact hw10|exact hn7|exact hn10|exact hp7|exact hm7|exact hm10|exact hv) (by first|rfl|exact hw7|exact hw10|exact hn7|exact hn10|exact hp7|exact hm7|exact hm10|exact hv) ω ω ?_
    refine ZaR (wM l+1) (-hM l) (by first|rfl|exact hw7|exact hw10|exact hn7|exact hn10|exact hp7|exact hm7|exact hm10|exact hv) (by first|rfl|exact hw7|exact hw10|exact hn7|exact hn10|exact hp7|exact hm7|exact hm10|exact hv) ω ω ?_
    refine ZaR (wM l+1) (hM l) (by first|rfl|exact hw7|exact hw10|exact hn7|exact hn10|exact hp7|exact hm7|exact hm10|exact hv) (by first|rfl|exact hw7|exact hw10|exact hn7|exact hn10|exact hp7|exact hm7|exact hm10|exact hv) ω ω ?_
    refine ZaR (-wM l - 1) (hM l) (by first|rfl|exact hw7|exact hw10|exact hn7|exact hn10|exact hp7|exact hm7|exact hm10|exact hv) (by first|rfl|exact hw7|exact hw10|exact hn7|exact hn10|exact hp7|exact hm7|exact hm10|exact hv) ω ω ?_
    refine⟨Eq.trans (b:= .val (.one (.d (.list ([[Yb (cn (qtr (-wM l - 1))),Ys (cn (qtr (-wM l - 1))),Yt (cn (qtr (-wM l - 1))),Yb (cn (qtr (-hM l - 1))),Ys (cn (qtr (-hM l - 1))),Yt (cn (qtr (-hM l - 1)))], [Yb (cn (qtr (wM l))),Ys (cn (qtr (wM l))),Yt (cn (qtr (wM l))),Yb (cn (qtr (-hM l - 1))),Ys (cn (qtr (-hM l - 1))),Yt (cn (qtr (-hM l - 1)))], [Yb (cn (qtr (wM l+1))),Ys (cn (qtr (wM l+1))),Yt (cn (qtr (wM l+1))),Yb (cn (qtr (-hM l))),Ys (cn (qtr (-hM l))),Yt (cn (qtr (-hM l)))], [Yb (cn (qtr (wM l+1))),Ys (cn (qtr (wM l+1))),Yt (cn (qtr (wM l+1))),Yb (cn (qtr (hM l))),Ys (cn (qtr (hM l))),Yt (cn (qtr (hM l)))], [Yb (cn (qtr (-wM l - 1))),Ys (cn (qtr (-wM l - 1))),Yt (cn (qtr (-wM l - 1))),Yb (cn (qtr (hM l))),Ys (cn (qtr (hM l))),Yt (cn (qtr (hM l)))]]))))) ?_ rfl,rfl,?_⟩
    unfold polyM polyI
    rw [if_neg c13,if_neg c32,if_pos c53]
    rfl
    rw [show polyS l=l3M l from if_neg c32]
    rfl
   ·have f53:¬ (nextV (nextL (nextL l 6) 6) 4=2):=ZC e3
    have c53:¬ cM l=2:=f53
    refine ZaR (-wM l) (0) (by first|rfl|exact hw7|exact hw10|exact hn7|exact hn10|exact hp7|exact hm7|exact hm10|exact hv) (by first|rfl|exact hw7|exact hw10|exact hn7|exact hn10|exact hp7|exact hm7|exact hm10|exact hv) ω ω ?_
    refine ZaR (0) (-hM l) (by first|rfl|exact hw7|exact hw10|exact hn7|exact hn10|exact hp7|exact hm7|exact hm10|exact hv) (by first|rfl|exact hw7|exact hw10|exact hn7|exact hn10|exact hp7|exact hm7|exact hm10|exact hv) ω ω ?_
    refine ZaR (wM l) (0) (by first|rfl|exact hw7|exact hw10|exact hn7|exact hn10|exact hp7|exact hm7|exact hm10|exact hv) (by first|rfl|exact hw7|exact hw10|exact hn7|exact hn10|exact hp7|exact hm7|exact hm10|exact hv) ω ω ?_
    refine ZaR (0) (hM l) (by first|rfl|exact hw7|exact hw10|exact hn7|exact hn10|exact hp7|exact hm7|exact hm10|exact hv) (by first|rfl|exact hw7|exact hw10|exact hn7|exact hn10|exact hp7|exact hm7|exact hm10|exact hv) ω ω ?_
    refine⟨Eq.trans (b:= .val (.one (.d (.list ([[Yb (cn (qtr (-wM l))),Ys (cn (qtr (-wM l))),Yt (cn (qtr (-wM l))),Yb (cn (qtr (0))),Ys (cn (qtr (0))),Yt (cn (qtr (0)))], [Yb (cn (qtr (0))),Ys (cn (qtr (0))),Yt (cn (qtr (0))),Yb (cn (qtr (-hM l))),Ys (cn (qtr (-hM l))),Yt (cn (qtr (-hM l)))], [Yb (cn (qtr (wM l))),Ys (cn (qtr (wM l))),Yt (cn (qtr (wM l))),Yb (cn (qtr (0))),Ys (cn (qtr (0))),Yt (cn (qtr (0)))], [Yb (cn (qtr (0))),Ys (cn (qtr (0))),Yt (cn (qtr (0))),Yb (cn (qtr (hM l))),Ys (cn (qtr (hM l))),Yt (cn (qtr (hM l)))]]))))) ?_ rfl,rfl,?_⟩
    unfold polyM polyI
    rw [if_neg c13,if_neg c32,if_neg c53]
    rfl
    rw [show polyS l=l3M l from if_neg c32]
    rfl
theorem Zp4 (l:List Int) (hl:∀ x,x∈l→-9223372036854775808≤x∧x≤9223372036854775807):Spec Tryz.prog Tab 25 [Xl stD l] (Xl rdv (polyM l)):=by
 refine ZcN [800006] Tryz.func25 rfl rfl Tryz.ntmps25 rfl ωr rfl rfl ?_
 refine⟨(Xl rdv (polyM l)), [D.list (map stD (polyS l))],⟨⟨rfl,rfl⟩,Zvo l hl⟩,?_⟩
 refine Eq.trans (b:= (Xl rdv (polyM l))) ?_ rfl
 rfl
end
