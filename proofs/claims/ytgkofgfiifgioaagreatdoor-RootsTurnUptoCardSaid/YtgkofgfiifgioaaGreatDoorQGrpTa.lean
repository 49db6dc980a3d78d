/- Joined by wip/bundle.py: XSayA XRoa0 XOpenI XPrf0 XFrac XTop0 XTopA. -/
import Derived.Test.YtgkofgfiifgioaaGreatDoorQGrpL
import Derived.Test.YtgkofgfiifgioaaGreatDoorQGrp2
import Derived.Test.YtgkofgfiifgioaaGreatDoorQGrpR
import Derived.Shelf.Strings.SlTrimAscii
import Derived.Test.YtgkofgfiifgioaaGreatDoorQGrpGr
set_option maxRecDepth 100000
namespace Go.Proofs.YtgkofgfiifgioaaGreatDoor.eng
open Go.RowKit num mem seg q held ratA ratB ratC ratD ratE vars ratF trq
section
variable {K : AV → Prop}
end
def intD (n:Int):List D:= [.v (.int .i64 n)]
section
variable {d : Nat → Rat}
end
end Go.Proofs.YtgkofgfiifgioaaGreatDoor.eng
namespace Go.Proofs.YtgkofgfiifgioaaGreatDoor.argopen
open Go.RowKit Go.ChangeShapes Go.WideShapes Go.ChangeAt num mem seg q eng
variable {H : Type} {enc : TypeId × Value → H} {w : World} {base : Nat} {sp : Nat → Bool} {held : Bool} {I : Nat → Prop}
def Rint (x:Int) (d:DataW H):Prop:=1≤Rows.uptoBulk d∧-9223372036854775808≤x∧x≤9223372036854775807
theorem Zj6 {fuel:Nat} {cs:List Value} {x:DataW H×List MemPlace} (h:DataW.trod enc Tryz.prog w base sp held fuel 3 cs=some x):∃ a:Int,Rint a x.1∧Cells w I cs (eng.intD a):=by
 obtain⟨k,rfl,rfl,hw⟩:=DataW.trod_int Tryz.underlying3 h
 have:-9223372036854775808≤k∧k≤9223372036854775807:=by have:=hw;simp [Lit.wf,IntKind.min,IntKind.max,IntKind.signed,IntKind.bits] at this;omega
 exact⟨k,⟨by simp only [Rows.uptoBulk];omega,this⟩,Cells.nil.cons (Den.v _ rfl)⟩
def intsZ (l:List Int) (B:Nat):Prop:=l.length≤B∧∀ x,x∈l→-9223372036854775808≤x∧x≤9223372036854775807
theorem Zpn {l:List Int} {B C:Nat} (h:intsZ l B) (hB:B≤C):intsZ l C:=⟨Nat.le_trans h.1 hB,h.2⟩
theorem ZkW {r:Reach} {b0:Nat} {v:Value} {d:DataW H} {ps:List MemPlace} (hval:Value.okWide Tryz.prog w r b0 22 v) (hd:DataW.Trod enc Tryz.prog w base sp held 22 v d ps) (hI:∀ b,b< w.heap.size→I b):
  ∃ l:List Int,Den w I v (.list (l.map eng.intD))∧intsZ l (Rows.uptoBulk d):=by
 obtain⟨av,len,cap,rfl⟩:=okWide_slice Tryz.underlying22 hval
 obtain⟨fuel,hf⟩:=hd
 obtain⟨v,l,ds,g2,hdl,hr,hx⟩:=Zi9 (R:=Rint) eng.intD ωd (fun _=>rfl) Tryz.underlying22 ωr (fun fuel cs x h=>Zj6 h) hI hf
 obtain⟨h1,h2,h3⟩:=ZjV (d:=d) hr hx fun a x h=>h.1
 obtain rfl:=(List.cons.inj g2).1
 exact⟨l,hdl,ω,fun k hk=>by obtain⟨x,⟨_,a⟩,g⟩:=h3 k hk;exact a⟩
end Go.Proofs.YtgkofgfiifgioaaGreatDoor.argopen
namespace Go.Proofs.YtgkofgfiifgioaaGreatDoor.prf
open Go.Proofs.YtgkofgfiifgioaaGreatDoor.eng Go.RowKit num mem seg q held ratA ratB ratC ratD ratE vars ratF
theorem get_ex {α:Type} {l:List α} {i:Nat} (h:i< l.length) {G:Prop} (k:∀ x,l[i]? =some x→G):G:=k _ (List.getElem?_eq_getElem h)
end Go.Proofs.YtgkofgfiifgioaaGreatDoor.prf
namespace Go.Proofs.YtgkofgfiifgioaaGreatDoor.eng
open Go.RowKit num mem seg q held ratA ratB ratC
theorem ZjK (n:Int) (d:Nat) (hd:0< d):((n:Rat) / (d:Rat)).num=n / (Nat.gcd n.natAbs d:Int)∧((n:Rat) / (d:Rat)).den=d / Nat.gcd n.natAbs d:=by
 have hg:0< Nat.gcd n.natAbs d:=Nat.gcd_pos_of_pos_right _ hd
 obtain⟨m,hm⟩:(Nat.gcd n.natAbs d:Int) ∣ n:=Int.ofNat_dvd_left.2 (Nat.gcd_dvd_left _ _)
 obtain⟨e,he⟩:=Nat.gcd_dvd_right n.natAbs d
 have hgz:(Nat.gcd n.natAbs d:Int)≠0:=ω
 have hm2:n / (Nat.gcd n.natAbs d:Int)=m:=by
  conv=>lhs;lhs;rw [hm]
  exact Int.mul_ediv_cancel_left m hgz
 have he2:d / Nat.gcd n.natAbs d=e:=by
  conv=>lhs;lhs;rw [he]
  exact Nat.mul_div_cancel_left e hg
 have he0:e≠0:=by
  rintro rfl
  omega
 have hc:Nat.Coprime m.natAbs e:=by
  have h1:n.natAbs=Nat.gcd n.natAbs d*m.natAbs:=by
   conv=>lhs;rw [hm]
   rw [Int.natAbs_mul,Int.natAbs_natCast]
  have h2:=Nat.coprime_div_gcd_div_gcd hg
  rw [he2] at h2
  have h3:n.natAbs / Nat.gcd n.natAbs d=m.natAbs:=by
   conv=>lhs;lhs;rw [h1]
   exact Nat.mul_div_cancel_left _ hg
  rwa [h3] at h2
 have hq:(n:Rat) / (d:Rat)=⟨m,e,he0,hc⟩:=by
  have h1:(m:Rat) / (e:Rat)=⟨m,e,he0,hc⟩:=by rw [← Rat.mkRat_eq_div];exact Rat.mkRat_self ⟨m,e,he0,hc⟩
  rw [← h1]
  have e1:(n:Rat)=((Nat.gcd n.natAbs d:Nat):Rat)*(m:Rat):=by
   conv=>lhs;rw [hm]
   rw [Rat.intCast_mul];rfl
  have e2:(d:Rat)=((Nat.gcd n.natAbs d:Nat):Rat)*(e:Rat):=by
   conv=>lhs;rw [he]
   rw [Rat.natCast_mul]
  have hgq:((Nat.gcd n.natAbs d:Nat):Rat)≠0:=by
   intro h;have:=Rat.natCast_eq_zero_iff.1 h;omega
  have heq:(e:Rat)≠0:=by
   intro h;have:=Rat.natCast_eq_zero_iff.1 h;omega
  rw [e1,e2]
  grind
 rw [hq,hm2,he2]
 exact⟨rfl,rfl⟩
theorem ZqS (n:Int) (d:Nat) (hd:0< d):cn ((n:Rat) / (d:Rat))=⟨decide (n< 0),enc (n.natAbs / Nat.gcd n.natAbs d),enc (d / Nat.gcd n.natAbs d)⟩:=by
 obtain⟨h1,h2⟩:=ZjK n d hd
 have hg:0< Nat.gcd n.natAbs d:=Nat.gcd_pos_of_pos_right _ hd
 have hdv:Nat.gcd n.natAbs d ∣ n.natAbs:=Nat.gcd_dvd_left _ _
 unfold cn
 rw [h1,h2]
 have e1:(n / (Nat.gcd n.natAbs d:Int)).natAbs=n.natAbs / Nat.gcd n.natAbs d:=by
  rw [Int.natAbs_ediv_of_dvd (Int.ofNat_dvd_left.2 hdv),Int.natAbs_natCast]
 have e2:decide (n / (Nat.gcd n.natAbs d:Int)< 0)=decide (n< 0):=by
  refine decide_eq_decide.2 ⟨fun h=> ?_,fun h=>Int.ediv_neg_of_neg_of_pos h ω⟩
  by_cases g:n< 0
  ·exact g
  ·exact absurd h (by have:=Int.ediv_nonneg (a:=n) (b:=(Nat.gcd n.natAbs d:Int)) ω ω;omega)
 rw [e1,e2]
open Go.RowKit num mem seg q held ratA ratB ratC ratD ratE vars ratF natC natD natI sub32
section
variable {K : AV → Prop} {T : TypeId} {ox oy : Operand}
theorem Zm8 (T:TypeId) (ox oy:Operand) (x y:Int) (hy:y≠0) (w:World):(do eqGuard .rem T ox oy (.int .i64 x) (.int .i64 y);binOp .rem T (.int .i64 x) (.int .i64 y):Sem Value).run Tryz.prog w= .ok (.int .i64 (x.tmod y)) w:=by
 have hg:eqGuard .rem T ox oy (.int .i64 x) (.int .i64 y)=pure ():=rfl
 rw [hg,binOp_rem]
 unfold Op.intDiv
 rw [if_neg hy]
 rfl
theorem Zsf {x y:Int} (r:Int) (hy:y≠0) (hr:x.tmod y=r) (k:K (int r)):AskB .rem T ox oy (.int .i64 x) (.int .i64 y) K:=⟨_,⟨_,rfl,rfl,Zm8 T ox oy x y hy⟩,by rw [hr];exact k⟩
theorem Znb (T:TypeId) (ox oy:Operand) (x y r:Int) (hy:y≠0) (hr:IntKind.i64.wrap (x.tdiv y)=r) (w:World):(do eqGuard .quo T ox oy (.int .i64 x) (.int .i64 y);binOp .quo T (.int .i64 x) (.int .i64 y):Sem Value).run Tryz.prog w= .ok (.int .i64 r) w:=by
 have hb:Op.intDiv .quo .i64 x y=pure (.int .i64 r):=by
  unfold Op.intDiv
  rw [if_neg hy]
  show pure (Value.int .i64 (IntKind.i64.wrap (x.tdiv y)))=_
  rw [hr]
 rw [eqGuard_quo,binOp_quo,hb]
 rfl
theorem ZoT {x y:Int} (r:Int) (hy:y≠0) (hr:IntKind.i64.wrap (x.tdiv y)=r) (k:K (int r)):AskB .quo T ox oy (.int .i64 x) (.int .i64 y) K:=⟨_,⟨_,rfl,rfl,Znb T ox oy x y r hy hr⟩,k⟩
end
def stD (n:Int):List D:= [D.v (.int .i64 n)]
def nextV (l:List Int) (n:Int):Int:=match l with
 | []=>0
 |x :: _=>if n< 1 then 0 else x % n
def nextL (l:List Int) (n:Int):List Int:=match l with
 | []=> []
 |x :: r=>if n< 1 then x :: r else r
theorem Zok {x n:Int} (hn:1≤n):(if x.tmod n< 0 then x.tmod n+n else x.tmod n)=x % n:=by
 have h1:=Int.emod_nonneg x (show n≠0 by omega)
 have h2:=Int.emod_lt_of_pos x (show 0< n by omega)
 rw [Int.tmod_eq_emod]
 by_cases hx:0≤x∨n ∣ x
 ·simp only [if_pos hx]
  split<;>omega
 ·simp only [if_neg hx]
  split<;>omega
open Go.RowKit num mem seg q held ratA ratB ratC ratD ratE vars ratF prf natC natD natI sub32
section
variable {K : AV → Prop}
theorem Zcy (x n:Int) (_:-9223372036854775808≤x∧x≤9223372036854775807) (hn:1≤n∧n≤1073741824):Spec Tryz.prog Tab 16 [int x,int n] (int (x % n)):=by
 have hb:=Zok (x:=x) hn.1
 have ht1:-n< x.tmod n∧x.tmod n< n:=⟨Int.lt_tmod_of_pos x ω,Int.tmod_lt_of_pos x ω⟩
 refine Zh Tryz.func16 rfl rfl Tryz.ntmps16 rfl ωr rfl rfl ?_
 refine Zsf (x.tmod n) ω rfl ?_
 refine⟨fun e1=> ?_,fun e1=> ?_⟩
 ·have f9:x.tmod n< 0:=of_decide_eq_true e1
  refine Eq.trans (b:=int (IntKind.i64.wrap ((x.tmod n)+n))) ?_ rfl
  rw [← hb,if_pos f9,wrap64 _ ω ω]
 ·have f9:¬ (x.tmod n< 0):=of_decide_eq_false e1
  refine Eq.trans (b:=int (x.tmod n)) ?_ rfl
  rw [← hb,if_neg f9]
theorem Zoo (n:Int) (d:Nat) (hn:-256< n∧n< 256) (hd:1≤d∧d< 256):Spec Tryz.prog Tab 40 [int n,int (d:Int)] (rat (cn ((n:Rat) / (d:Rat)))):=by
 refine Zh Tryz.func40 rfl rfl Tryz.ntmps40 rfl ωr rfl rfl ?_
 refine⟨Nat×Nat,fun (a,b)=> [(0,int n),(1,int (d:Int)),(4,.val (.one (.ptr 4 0))),(5,int (a:Int)),(6,int (b:Int))],
  fun (a,b)=> [(4,.var 25 [.d (.v (.bool z0.s)),.d (.v (.string z0.a)),.d (.v (.string z0.d))])],fun (a,b)=>Nat.gcd a b=Nat.gcd n.natAbs d∧a< 256∧b< 256∧(0< a∨0< b),fun (a,b)=>b,(n.natAbs,d),?_,⟨rfl,ω,ω,.inr ω⟩,fun s hs=> ?_⟩
 ·constructor<;>(repeat' (first|exact rfl|exact True.intro|exact⟨_,_,rfl⟩|exact ωd|apply And.intro))
  all_goals first
   |exact congrArg (fun n:Int=>D.v (.int .i64 n)) (by rw [wrap64 _ ω ω];split<;>omega)
 obtain⟨a,b⟩:=s
 obtain⟨g1,g2,g3,g4⟩:=hs
 refine⟨fun e1=> ?_,fun e1=> ?_⟩
 ·have f13:(b:Int) >0:=of_decide_eq_true e1
  refine Zf6 a b ωf ωf ω ?_
  refine⟨ωr,?_⟩
  refine⟨(b,a % b),⟨by rw [← g1,Nat.gcd_comm a b,Nat.gcd_comm b (a % b)];exact(Nat.gcd_rec b a).symm,g3,by have:=Nat.mod_lt a (show 0< b by omega);omega,.inl ω⟩,by have:=Nat.mod_lt a (show 0< b by omega);simp only;omega,?_⟩
  constructor<;>(repeat' (first|exact rfl|exact True.intro|apply And.intro))
  all_goals first
   |exact ωb
   |exact ωa
 ·have f13:¬ ((b:Int) >0):=of_decide_eq_false e1
  obtain rfl:b=0:=ω
  rw [Nat.gcd_zero_right] at g1
  have ha:0< a:=ω
  have hdn:a ∣ n.natAbs:=by rw [g1];exact Nat.gcd_dvd_left _ _
  have hdv:(a:Int) ∣ n:=Int.ofNat_dvd_left.2 hdn
  have hqa:(n / (a:Int)).natAbs=n.natAbs / a:=by rw [Int.natAbs_ediv_of_dvd hdv,Int.natAbs_natCast]
  have hq1:=Nat.div_le_self n.natAbs a
  have hq2:=Nat.div_le_self d a
  have hsg:decide (n / (a:Int)< 0)=decide (n< 0):=by
   refine decide_eq_decide.2 ⟨fun h=> ?_,fun h=>Int.ediv_neg_of_neg_of_pos h ω⟩
   by_cases g:n< 0
   ·exact g
   ·exact absurd h (by have:=Int.ediv_nonneg (a:=n) (b:=(a:Int)) ω ω;omega)
  refine ZoT (n / (a:Int)) ω (by rw [Int.tdiv_eq_ediv_of_dvd hdv,wrap64 _ ω ω]) ?_
  refine ZoU d a ωf ωf ω ω ?_
  refine⟨ωr,?_⟩
  refine Ziv (n.natAbs / a) (by rw [wrap64 _ ω ω,← hqa];split<;>omega) ω ?_
  refine Ziv (d / a) rfl ω ?_
  refine Eq.trans (b:= .val (.agg [.d (.v (.bool (decide (n / (a:Int)< 0)))),.d (.v (.string (enc (n.natAbs / a)))),.d (.v (.string (enc (d / a))))])) ?_ rfl
  rw [ZqS n d ω,← g1,hsg]
  rfl
def denM (x:Int):Nat:=(([1,2,3,4,5,8]:List Nat)[(x % 6).toNat]?).getD 1
theorem Zmf (x:Int):1≤denM x∧denM x≤8:=by
 have h1:=Int.emod_nonneg x (show (6:Int)≠0 by decide)
 have h2:=Int.emod_lt_of_pos x (show (0:Int)< 6 by decide)
 have:x % 6=0∨x % 6=1∨x % 6=2∨x % 6=3∨x % 6=4∨x % 6=5:=ω
 unfold denM
 rcases this with h|h|h|h|h|h<;>rw [h]<;>decide
theorem ZqK (x:Int):([stD 1,stD 2,stD 3,stD 4,stD 5,stD 8]:List (List D))[(x % 6).toNat]? =some (stD (denM x:Int)):=by
 have h1:=Int.emod_nonneg x (show (6:Int)≠0 by decide)
 have h2:=Int.emod_lt_of_pos x (show (0:Int)< 6 by decide)
 have:x % 6=0∨x % 6=1∨x % 6=2∨x % 6=3∨x % 6=4∨x % 6=5:=ω
 unfold denM
 rcases this with h|h|h|h|h|h<;>rw [h]<;>rfl
def numM (x:Int):Int:=x.tdiv 6 % (16*(denM x:Int)+1) - 8*(denM x:Int)
theorem Zk2 (x:Int):-(8*(denM x:Int))≤numM x∧numM x≤8*(denM x:Int):=by
 have h:=Zmf x
 have h1:=Int.emod_nonneg (x.tdiv 6) (show 16*(denM x:Int)+1≠0 by omega)
 have h2:=Int.emod_lt_of_pos (x.tdiv 6) (show 0< 16*(denM x:Int)+1 by omega)
 unfold numM;omega
def ratM (x:Int):Rat:=(numM x:Rat) / (denM x:Rat)
theorem ZmK (x:Int) (hx:-9223372036854775808≤x∧x≤9223372036854775807):Spec Tryz.prog Tab 7 [int x] (rat (cn (ratM x))):=by
 have hd:=Zmf x
 have hm:=Zk2 x
 have ht0:(x.tdiv 6).natAbs=x.natAbs / 6:=by rw [Int.natAbs_tdiv];rfl
 refine Zh Tryz.func7 rfl rfl Tryz.ntmps7 rfl ωr rfl rfl ?_
 refine use (Zcy x 6 hx ω) rfl ?_
 refine k_ix ((x % 6).toNat) [D.v (.int .i64 ((denM x:Int)))] ωf (ZqK x) rfl ?_
 refine ZoT (x.tdiv 6) ωd (wrap64 _ ω ω) ?_
 have hw2:IntKind.i64.wrap ((IntKind.i64.wrap (16*(denM x:Int)))+1)=16*(denM x:Int)+1:=by rw [wrap64 (16*(denM x:Int)) ω ω,wrap64 _ ω ω]
 have hm1:=Int.emod_nonneg (x.tdiv 6) (show 16*(denM x:Int)+1≠0 by omega)
 have hm2:=Int.emod_lt_of_pos (x.tdiv 6) (show 0< 16*(denM x:Int)+1 by omega)
 refine use (Zcy (x.tdiv 6) (IntKind.i64.wrap ((IntKind.i64.wrap (16*(denM x:Int)))+1)) ω ω) rfl ?_
 have hwn:IntKind.i64.wrap ((x.tdiv 6 % (IntKind.i64.wrap ((IntKind.i64.wrap (16*(denM x:Int)))+1))) - (IntKind.i64.wrap (8*(denM x:Int))))=numM x:=by unfold numM;rw [hw2,wrap64 (8*(denM x:Int)) ω ω,wrap64 _ ω ω]
 have hof:=Zoo (numM x) (denM x) ω ω
 rw [show int (numM x)=int (IntKind.i64.wrap ((x.tdiv 6 % (IntKind.i64.wrap ((IntKind.i64.wrap (16*(denM x:Int)))+1))) - (IntKind.i64.wrap (8*(denM x:Int))))) from by rw [hwn]] at hof
 refine use hof rfl ?_
 refine Eq.trans (b:=rat (cn (ratM x))) ?_ rfl
 rfl
end
