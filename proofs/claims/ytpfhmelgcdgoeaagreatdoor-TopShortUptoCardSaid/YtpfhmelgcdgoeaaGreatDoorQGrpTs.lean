/- Joined by wip/bundle.py: XRvf0 XRvfA XTsh0 XTshA XTsh1 XTsh2 XTsh3 XTshB XLawTsh. -/
import Derived.Test.YtpfhmelgcdgoeaaGreatDoorQGrpIv
import Derived.Test.YtpfhmelgcdgoeaaGreatDoorQGrp4
import Derived.Test.YtpfhmelgcdgoeaaGreatDoorQGrpMk
import Derived.Test.YtpfhmelgcdgoeaaGreatDoorQGrpG
set_option maxHeartbeats 4000000
set_option maxRecDepth 100000
open List (map range_succ mem_cons not_mem_nil getElem?_map range map_append length_map map_map getElem?_eq_getElem getElem?_range)
namespace Go.Proofs.YtpfhmelgcdgoeaaGreatDoor.eng
open Go.RowKit num mem seg q held ratA ratB ratC ratD ratE vars ratF prf trq
theorem Zpd {A:ArmV} {l:List RV} (hA:armE A=0) (hl:l.length=A.links.length) (h:∀ (i:Nat) (k:LinkV) (x:RV),A.links[i]? =some k→l[i]? =some x→k.low.q≤x.q∧x.q≤k.high.q):fitsE A l=0:=by
 unfold fitsE
 rw [if_pos (Z3.2 ⟨hA,by rw [hl]⟩),if_neg]
 rintro⟨i,k,x,h1,h2,h3⟩
 obtain⟨a,b⟩:=h i k x h1 h2
 rcases h3 with g|g
 ·exact absurd a (Rat.not_le.2 g)
 ·exact absurd b (Rat.not_le.2 g)
theorem ZnU {A:ArmV} {P:List (List RV)} {s:Int} (hA:armE A=0) (h1:1≤P.length) (h2:P.length≤60) (hs:0≤s∧s≤2000) (hf:∀ i,i< P.length→fitsE A (wAt P i)=0) (ht:∀ i,i< P.length→tkS A P s i≤2000):plnE A P s=0∧plnV A P s=plnL A P s P.length:=by
 have h:=ZnV (Zsd hA ω ω ω) fun j hj=>Zj6 (hf j hj) (ht j hj)
 exact⟨h,ZiC h⟩
def qT:List RV:= [cn ((-1:Rat) / 2),cn (1:Rat)]
def zT:List RV:= [cn (0:Rat),cn (0:Rat)]
theorem fitT {a b:Rat} (ha:-2≤a∧a≤2) (hb:-2≤b∧b≤2):fitsE (sampA [3,4]) [cn a,cn b]=0:=by
 refine Zpd (ZfY (by simp) ωd ωd) rfl fun i k x h1 h2=> ?_
 have em:m2Q=-2:=by decide+kernel
 have ep:n2Q=2:=by decide+kernel
 rcases i with _|_|i
 ·obtain rfl:sampL 3=k:=Option.some.inj h1
  obtain rfl:cn a=x:=Option.some.inj h2
  show (cn m2Q).q≤(cn a).q∧(cn a).q≤(cn n2Q).q
  rw [cn_q,cn_q,cn_q,em,ep];exact ha
 ·obtain rfl:sampL 4=k:=Option.some.inj h1
  obtain rfl:cn b=x:=Option.some.inj h2
  show (cn m2Q).q≤(cn b).q∧(cn b).q≤(cn n2Q).q
  rw [cn_q,cn_q,cn_q,em,ep];exact hb
 ·have:=(List.getElem?_eq_some_iff.1 h2).1
  simp at this;omega
theorem tkT:tkS (sampA [3,4]) [qT,zT] 0 1=4:=by decide+kernel
theorem plnT:plnE (sampA [3,4]) [qT,zT] 0=0∧plnV (sampA [3,4]) [qT,zT] 0=plnL (sampA [3,4]) [qT,zT] 0 2:=by
 refine ZnU (ZfY (by simp) ωd ωd) ωd ωd ωd (fun i hi=> ?_) fun i hi=> ?_
 ·have hi:i< 2:=hi
  rcases i with _|_|i
  ·exact fitT ωk ωk
  ·exact fitT ωk ωk
  ·omega
 ·have hi:i< 2:=hi
  rcases i with _|_|i
  ·decide
  ·rw [show (0+1)=1 from rfl,tkT];decide
  ·omega
theorem tipT:(tipF (sampA [3,4]) qT).x=5∧(tipF (sampA [3,4]) qT).y=0:=by decide+kernel
def lkR:Nat→List LinkV
 |0=> []
 |1=> [sampL 3]
 |_=> [sampL 3,sampL 4]
def nmT:ByteArray:=ByteArray.mk #[111,110,101]
def arS (i:Nat):List C:= [.d (.v (.string nmT)),Xb (cn n0Q),Xs (cn n0Q),Xt (cn n0Q),Xb (cn n0Q),Xs (cn n0Q),Xt (cn n0Q),.d (.v (.bool false)),Xb (cn n0Q),Xs (cn n0Q),Xt (cn n0Q),
 match i with
 |0=> .d (.v (.slice none 0 0))
 |_+1=> .row 45 0]
def arO (i:Nat):List (Nat×Ob):=match i with
 |0=> []
 |i+1=> [(45,.row 64 16 0 (map lk (lkR (i+1))) true)]
open Go.RowKit num mem seg q held ratA ratB ratC ratD ratE vars ratF prf natC natD natI sub32 trq
section
variable {K : AV → Prop}
theorem Zq (n:Int) (d:Nat) (v:Rat) (hn:-256< n∧n< 256) (hd:1≤d∧d< 256) (hv:(n:Rat) / (d:Rat)=v):Spec Tryz.prog Tab 16 [int n,int (d:Int)] (rat (cn v)):=by
 refine Za Tryz.func16 rfl rfl Tryz.ntmps16 rfl ωr rfl rfl ?_
 refine ZsD (v:=v) n d rfl rfl hn hd hv ?_
 refine Eq.trans (b:=rat (cn v)) ?_ rfl
 rfl
theorem ZW (x y:Int) (p q:Rat) (hx:-256< x∧x< 256) (hy:-256< y∧y< 256) (hp:(x:Rat) / ((1:Nat):Rat)=p) (hq:(y:Rat) / ((1:Nat):Rat)=q):Spec Tryz.prog Tab 15 [int x,int y] (pair (cn p) (cn q)):=by
 refine Za Tryz.func15 rfl rfl Tryz.ntmps15 rfl ωr rfl rfl ?_
 refine use (Zq x 1 p hx ωd hp) rfl ?_
 refine use (Zq y 1 q hy ωd hq) rfl ?_
 refine Eq.trans (b:=pair (cn p) (cn q)) ?_ rfl
 rfl
theorem Ziq  :Spec Tryz.prog Tab 4 [] (bool true):=by
 have l1:(map lk (lkR 1)).length=1:=rfl
 have l2:(map lk (lkR 2)).length=2:=rfl
 have l0:(map lk (lkR 0)).length=0:=rfl
 refine Za Tryz.func4 rfl rfl Tryz.ntmps4 rfl ωr rfl rfl ?_
 refine use (ZW (0) (0) n0Q n0Q ωd ωd ωk ωk) rfl ?_
 refine use (Zq (0) 1 n0Q ωd ωd ωk) rfl ?_
 refine⟨Nat,fun i=> [(1,fv 15),(2,.val (.one (.ptr 2 0))),(18,.val (.one (.full ([[D.v (.int .i64 (3))], [D.v (.int .i64 (4))]])))),(19,int 2),(20,int (i:Int))],
  fun i=> [(2,.var 34 (arS i))]++arO i,fun i=>i≤2,fun i=>2 - i,0,?_,Nat.zero_le _,fun i hs=> ?_⟩
 ·exact ωe
 rcases (show i=0∨i=1∨i=2 by omega) with rfl|rfl|rfl
 ·refine⟨fun _=> ?_,fun e=>absurd e ωd⟩
  refine k_ix 0 [D.v (.int .i64 (3))] ωf rfl rfl ?_
  refine use (Zq (3) 1 ((3:Nat):Rat) ωd ωd ωk) rfl ?_
  refine use (Zq (-2) 1 m2Q ωd ωd ωk) rfl ?_
  refine use (Zq (2) 1 n2Q ωd ωd ωk) rfl ?_
  refine use (Zq (1) 4 q4Q ωd ωd ωk) rfl ?_
  refine use (Zq (1) 10 q10Q ωd ωd ωk) rfl ?_
  refine use (ZW (0) (-1) n0Q m1Q ωd ωd ωk ωk) rfl ?_
  refine use (ZW (3) (-1) ((3:Nat):Rat) m1Q ωd ωd ωk ωk) rfl ?_
  refine use (ZW (3) (1) ((3:Nat):Rat) n1Q ωd ωd ωk ωk) rfl ?_
  refine use (ZW (0) (1) n0Q n1Q ωd ωd ωk ωk) rfl ?_
  refine⟨⟨row1 rfl,(by show 1*224≤_;omega),(by show 1≤_;omega)⟩,?_⟩
  refine⟨ωr,?_⟩
  refine⟨1,ω,by simp only;omega,?_⟩
  constructor<;>(repeat' (first|exact rfl|exact True.intro|apply And.intro))
  all_goals first
   |rfl
   |exact ωb
   |exact ωa
 ·refine⟨fun _=> ?_,fun e=>absurd e ωd⟩
  refine k_ix 1 [D.v (.int .i64 (4))] ωf rfl rfl ?_
  refine use (Zq (4) 1 ((4:Nat):Rat) ωd ωd ωk) rfl ?_
  refine use (Zq (-2) 1 m2Q ωd ωd ωk) rfl ?_
  refine use (Zq (2) 1 n2Q ωd ωd ωk) rfl ?_
  refine use (Zq (1) 4 q4Q ωd ωd ωk) rfl ?_
  refine use (Zq (1) 10 q10Q ωd ωd ωk) rfl ?_
  refine use (ZW (0) (-1) n0Q m1Q ωd ωd ωk ωk) rfl ?_
  refine use (ZW (4) (-1) ((4:Nat):Rat) m1Q ωd ωd ωk ωk) rfl ?_
  refine use (ZW (4) (1) ((4:Nat):Rat) n1Q ωd ωd ωk ωk) rfl ?_
  refine use (ZW (0) (1) n0Q n1Q ωd ωd ωk ωk) rfl ?_
  refine⟨⟨row1 rfl,(by show ((map lk (lkR 1)).length+1)*224≤_;omega),(by show ((map lk (lkR 1)).length+1)≤_;omega)⟩,?_⟩
  refine⟨ωr,?_⟩
  refine⟨2,ω,by simp only;omega,?_⟩
  constructor<;>(repeat' (first|exact rfl|exact True.intro|apply And.intro))
  all_goals first
   |rfl
   |exact ωb
   |exact ωa
 ·refine⟨fun e=>absurd e ωd,fun _=> ?_⟩
  refine use (Zq (-1) 2 ((-1:Rat) / 2) ωd ωd ωk) rfl ?_
  refine use (Zq (1) 1 (1:Rat) ωd ωd ωk) rfl ?_
  have htp:=ZrF (sampA [3,4]) qT Zd8 ωk
  have hh2:hasE (sampA [3,4]) (qT.length:Int)=0:=Zfa
  rw [ZcZ hh2,ZcZ hh2,ZcZ hh2,ZmM hh2,tipT.1,tipT.2,hh2] at htp
  refine use htp rfl ?_
  refine use (ZW (5) (0) (5:Rat) (0:Rat) ωd ωd ωk ωk) rfl ?_
  refine use TwoT rfl ?_
  refine⟨ωr,?_⟩
  refine use (Zq (0) 1 (0:Rat) ωd ωd ωk) rfl ?_
  refine use (Zq (0) 1 (0:Rat) ωd ωd ωk) rfl ?_
  have hpl:=ZeN (sampA [3,4]) [qT,zT] 0 Zd8 ωk ωd
  rw [plnT.1,plnT.2,show plnL (sampA [3,4]) [qT,zT] 0 2= [(0,gdL qT),(4,gdL zT)] from by unfold plnL plnG;simp only [range_succ,List.range_zero,List.nil_append,List.map_cons,List.map_nil,List.cons_append];rw [tkT];rfl] at hpl
  refine use hpl rfl ?_
  refine⟨ωr,?_⟩
  refine use (ZW (5) (0) (5:Rat) (0:Rat) ωd ωd ωk ωk) rfl ?_
  refine ZiU ⟨rfl,rfl⟩ ?_
  refine k_ix 1 [D.v (.int .i64 (4)),D.list ((gdL zT).map rdc)] ωf rfl rfl ?_
  refine⟨ωr,?_⟩
  refine Eq.trans (b:=bool true) ?_ rfl
  rfl
end
open Go.RowKit num mem seg q held ratA ratB ratC ratD ratE vars ratF prf natC natD natI sub32
def wlX (l:List Int) (i:Nat):Int:=sv l (1+5*i) 33 - 16
def wlY (l:List Int) (i:Nat):Int:=sv l (1+5*i+1) 33 - 16
theorem ZrN (l:List Int) (i:Nat):-16≤wlX l i∧wlX l i≤16:=by have:=Zu l (1+5*i) (n:=33) ωd;unfold wlX;omega
theorem ZrM (l:List Int) (i:Nat):-16≤wlY l i∧wlY l i≤16:=by have:=Zu l (1+5*i+1) (n:=33) ωd;unfold wlY;omega
def wlT (l:List Int) (i:Nat):List Int:= [sv l (1+5*i+2) 60,sv l (1+5*i+3) 60,sv l (1+5*i+4) 60]
theorem ZuK (l:List Int) (i:Nat):∀ x,x∈wlT l i→-9223372036854775808≤x∧x≤9223372036854775807:=by
 intro x hx
 have h1:=Zu l (1+5*i+2) (n:=60) ωd
 have h2:=Zu l (1+5*i+3) (n:=60) ωd
 have h3:=Zu l (1+5*i+4) (n:=60) ωd
 simp only [wlT,mem_cons,not_mem_nil,or_false] at hx
 rcases hx with rfl|rfl|rfl<;>omega
def wlI (l:List Int) (i:Nat):List (Int×Int):=(polyI (wlT l i)).map fun p=>(p.1+wlX l i,p.2+wlY l i)
theorem Zmr (l:List Int) (i:Nat):(wlI l i).length=(polyM (wlT l i)).length:=by simp [wlI,polyM]
theorem ZqI {P:List (Int×Int)} {j:Nat} {p:Int×Int} (h:P[j]? =some p):qtL (P.take (j+1))=qtL (P.take j)++ [(cn (qtr p.1),cn (qtr p.2))]:=by
 unfold qtL;rw [List.take_add_one,h];simp
theorem ZnF (a b:Int):qtr a+qtr b=qtr (a+b):=by
 unfold qtr;rw [Rat.intCast_add,Rat.div_def,Rat.div_def,Rat.div_def];grind
theorem Zr7 (a:Int):(a:Rat) / ((4:Nat):Rat)=qtr a:=by unfold qtr;rfl
theorem ZlB {a:Int} (h:-256≤a∧a≤256):(cn (qtr a)).z≤1048576:=by
 have k1:=Z4 (n:=a) ω ω
 have k2:qs ((4:Nat):Rat)≤8:=by decide+kernel
 have k3:=ZaW (a:Rat) ((4:Nat):Rat)
 rw [cn_z];unfold qtr;omega
theorem ZuL {l:List Int} {i j:Nat} {x:RV×RV} (h:(polyM (wlT l i))[j]? =some x):∃ p:Int×Int,(x.1.q+qtr (wlX l i)=qtr (p.1+wlX l i)∧x.2.q+qtr (wlY l i)=qtr (p.2+wlY l i))∧(x.1.z≤1048576∧x.2.z≤1048576)∧(wlI l i)[j]? =some (p.1+wlX l i,p.2+wlY l i):=by
 unfold polyM at h
 rw [getElem?_map] at h
 obtain⟨p,hp,e⟩:=Option.map_eq_some_iff.1 h
 have hb:=Zj4 (wlT l i) p (List.mem_of_getElem? hp)
 subst e
 refine⟨p,⟨by simp only [cn_q];exact ZnF ..,by simp only [cn_q];exact ZnF ..⟩,⟨ZlB ω,ZlB ω⟩,?_⟩
 unfold wlI;rw [getElem?_map,hp];rfl
def wlsV (l:List Int) (n:Nat):List (List (RV×RV)):=(range n).map fun i=>qtL (wlI l i)
theorem Zmp (l:List Int) (n:Nat):wlsV l (n+1)=wlsV l n++ [qtL (wlI l n)]:=by unfold wlsV;rw [range_succ,map_append];rfl
theorem Zdr (l:List Int) (n:Nat):(wlsV l n).length=n:=by simp [wlsV]
def wcM (l:List Int):Nat:=(sv l 0 3).toNat
theorem Zms (l:List Int):wcM l≤2∧(wcM l:Int)=sv l 0 3:=by have:=Zu l 0 (n:=3) ωd;unfold wcM;omega
open Go.RowKit num mem seg q held ratA ratB ratC ratD ratE vars ratF prf natC natD natI sub32 trq
section
variable {K : AV → Prop}
theorem Zg7 (l:List Int) (hl:∀ x,x∈l→-9223372036854775808≤x∧x≤9223372036854775807):Spec Tryz.prog Tab 9 [Xl stD l] (Xl rdvs (wlsV l (wcM l))):=by
 have hwc:=Zms l
 refine ZcN [800013,800017,800021,800026,800028,800030] Tryz.func9 rfl rfl Tryz.ntmps9 rfl ωr rfl rfl ?_
 have hs1:=Zu l (0) (n:=3) ωd
 refine⟨int (sv l (0) 3), [D.list (map stD (l.drop ((0)+1)))],⟨⟨rfl,rfl⟩,ZM l (0) 3 hl ωd⟩,?_⟩
 refine⟨Nat,fun i=> [(3,.val (.one (.ptr 11 0))),(4,.val (.one (.row 48 0))),(13,int (sv l (0) 3)),(14,int (i:Int))],
  fun i=> [(11,.var 38 [.d (.list (map stD (l.drop (1+5*i))))]),(48,.row 62 1 0 (map rdvs (wlsV l i)) true)],fun i=>i≤wcM l,fun i=>wcM l - i,0,?_,Nat.zero_le _,fun i hs=> ?_⟩
 ·exact ωe
 have hwl:(map rdvs (wlsV l i)).length=i:=by rw [length_map,Zdr]
 have hwx:=ZrN l i
 have hwy:=ZrM l i
 have hzx:=ZlB (a:=wlX l i) ω
 have hzy:=ZlB (a:=wlY l i) ω
 have hpn:(map rdv (polyM (wlT l i))).length=(wlI l i).length:=by rw [length_map,Zmr]
 have hpl:=ZnS (wlT l i)
 have hpi:=Zec (wlT l i)
 have hwn:=Zmr l i
 refine⟨fun e2=> ?_,fun e2=> ?_⟩
 ·have f15:(i:Int)< sv l (0) 3:=of_decide_eq_true e2
  have hs3:=Zu l (1+5*i) (n:=33) ωd
  refine⟨int (sv l (1+5*i) 33), [D.list (map stD (l.drop ((1+5*i)+1)))],⟨⟨rfl,rfl⟩,ZM l (1+5*i) 33 hl ωd⟩,?_⟩
  have hv19:IntKind.i64.wrap ((sv l (1+5*i) 33) - 16)=wlX l i:=by unfold wlX;rw [wrap64 _ ω ω]
  have hrv19:=Zq (wlX l i) 4 (qtr (wlX l i)) ω ωd (Zr7 _)
  rw [show int (wlX l i)=int (IntKind.i64.wrap ((sv l (1+5*i) 33) - 16)) from by rw [hv19]] at hrv19
  refine use hrv19 rfl ?_
  have hs4:=Zu l (1+5*i+1) (n:=33) ωd
  refine⟨int (sv l (1+5*i+1) 33), [D.list (map stD (l.drop ((1+5*i+1)+1)))],⟨⟨rfl,rfl⟩,ZM l (1+5*i+1) 33 hl ωd⟩,?_⟩
  have hv23:IntKind.i64.wrap ((sv l (1+5*i+1) 33) - 16)=wlY l i:=by unfold wlY;rw [wrap64 _ ω ω]
  have hrv23:=Zq (wlY l i) 4 (qtr (wlY l i)) ω ωd (Zr7 _)
  rw [show int (wlY l i)=int (IntKind.i64.wrap ((sv l (1+5*i+1) 33) - 16)) from by rw [hv23]] at hrv23
  refine use hrv23 rfl ?_
  have hs5:=Zu l (1+5*i+2) (n:=60) ωd
  refine⟨int (sv l (1+5*i+2) 60), [D.list (map stD (l.drop ((1+5*i+2)+1)))],⟨⟨rfl,rfl⟩,ZM l (1+5*i+2) 60 hl ωd⟩,?_⟩
  have hs6:=Zu l (1+5*i+3) (n:=60) ωd
  refine⟨int (sv l (1+5*i+3) 60), [D.list (map stD (l.drop ((1+5*i+3)+1)))],⟨⟨rfl,rfl⟩,ZM l (1+5*i+3) 60 hl ωd⟩,?_⟩
  have hs7:=Zu l (1+5*i+4) (n:=60) ωd
  refine⟨int (sv l (1+5*i+4) 60), [D.list (map stD (l.drop ((1+5*i+4)+1)))],⟨⟨rfl,rfl⟩,ZM l (1+5*i+4) 60 hl ωd⟩,?_⟩
  refine use (Zp4 (wlT l i) (ZuK l i)) rfl ?_
  refine⟨Nat,fun j=> [(3,.val (.one (.ptr 11 0))),(4,.val (.one (.row 48 0))),(5,.val (.one (.row 43 0))),(6,.val (.one (.ptr 6 0))),(13,int (sv l (0) 3)),(14,int (i:Int)),(32,Xl rdv (polyM (wlT l i))),(33,int ((map rdv (polyM (wlT l i))).length:Int)),(34,int (j:Int))],
   fun j=> [(6,.var 27 [Xb (cn (qtr (wlX l i))),Xs (cn (qtr (wlX l i))),Xt (cn (qtr (wlX l i))),Xb (cn (qtr (wlY l i))),Xs (cn (qtr (wlY l i))),Xt (cn (qtr (wlY l i)))]),(11,.var 38 [.d (.list (map stD (l.drop ((1+5*i+4)+1))))]),(43,.row 27 6 0 (map rdv (qtL ((wlI l i).take j))) true),(48,.row 62 1 0 (map rdvs (wlsV l i)) true)],fun j=>j≤(wlI l i).length,fun j=>(wlI l i).length - j,0,?_,Nat.zero_le _,fun j hs=> ?_⟩
  ·exact ωe
  have hql:(map rdv (qtL ((wlI l i).take j))).length=j:=by simp [qtL];omega
  refine⟨fun e8=> ?_,fun e8=> ?_⟩
  ·have f35:(j:Int)< ((map rdv (polyM (wlT l i))).length:Int):=of_decide_eq_true e8
   refine get_ex (l:=(polyM (wlT l i))) (i:=j) ωm fun x36 hx36=> ?_
   obtain⟨pw,hpx,hpz,hpw⟩:=ZuL hx36
   refine k_ix j [Yb x36.1,Ys x36.1,Yt x36.1,Yb x36.2,Ys x36.2,Yt x36.2] ωf (Zc hx36) rfl ?_
   have hva:=ZgB x36.1 x36.2 (cn (qtr (wlX l i))) (cn (qtr (wlY l i))) ω ω ω ω
   rw [cn_q,cn_q,hpx.1,hpx.2] at hva
   refine use hva rfl ?_
   refine⟨⟨row1 rfl,(by show ((map rdv (qtL ((wlI l i).take j))).length+1)*80≤_;omega),(by show ((map rdv (qtL ((wlI l i).take j))).length+1)≤_;omega)⟩,?_⟩
   refine⟨j+1,ω,by simp only;omega,?_⟩
   constructor<;>(repeat' (first|(set_option maxHeartbeats 20000 in exact rfl)|exact True.intro|apply And.intro))
   all_goals first
    |exact ωb
    |(rw [ZqI hpw,map_append];rfl)
    |exact ωb
    |exact ωa
  ·have f35:¬ ((j:Int)< ((map rdv (polyM (wlT l i))).length:Int)):=of_decide_eq_false e8
   refine⟨⟨row1 rfl,(by show ((map rdvs (wlsV l i)).length+1)*24≤_;omega),(by show ((map rdvs (wlsV l i)).length+1)≤_;omega)⟩,?_⟩
   have htk:(wlI l i).take j=wlI l i:=List.take_of_length_le ω
   rw [htk]
   refine⟨i+1,ω,by simp only;omega,?_⟩
   constructor<;>(repeat' (first|(set_option maxHeartbeats 20000 in exact rfl)|exact True.intro|apply And.intro))
   all_goals first
    |exact ωb
    |(rw [Zmp,map_append];rfl)
    |exact ωb
    |exact ωa
 ·have f15:¬ ((i:Int)< sv l (0) 3):=of_decide_eq_false e2
  refine Eq.trans (b:= (Xl rdvs (wlsV l i))) ?_ rfl
  rw [show wcM l=i by have:i≤wcM l:=hs;omega]
end
open natC
def upI:Nat→List Nat→Prop
 |_, []=>True
 |i,k :: r=>i< k∧upI k r
def lastI:Nat→List Nat→Nat
 |i, []=>i
 |_,k :: r=>lastI k r
def plI (I:List Nat) (j:Nat):Nat:=((0 :: I)[j]?).getD 0
theorem Zjw {k:Nat}:∀ {I:List Nat} {i:Nat},upI i I→lastI i I< k→upI i (I++ [k])∧lastI i (I++ [k])=k
 | [],_,_,h=>⟨⟨h,trivial⟩,rfl⟩
 |_ :: r,_,h,g=>by
  have:=Zjw (I:=r) h.2 g
  exact⟨⟨h.1,this.1⟩,this.2⟩
theorem ZmB:∀ {I:List Nat} {i j:Nat},upI i I→j< I.length→((i :: I)[j]?).getD 0< ((i :: I)[j+1]?).getD 0
 | [],_,_,_,h=>absurd h (by simp)
 |k :: r,_,0,h,_=>h.1
 |k :: r,_,j+1,h,g=>ZmB (I:=r) (i:=k) (j:=j) h.2 (by simpa using g)
theorem Zds:∀ {I:List Nat} {i:Nat},((i :: I)[I.length]?).getD 0=lastI i I
 | [],_=>rfl
 |k :: r,_=>Zds (I:=r) (i:=k)
theorem ZrQ:∀ {I:List Nat} {i:Nat},upI i I→∀ k,k∈i :: I→k≤lastI i I
 | [],i,_,k,hk=>by
   obtain rfl:k=i:=by simpa using hk
   exact Nat.le_refl _
 |a :: r,i,h,k,hk=>by
  have g:=ZrQ (I:=r) h.2
  rcases List.mem_cons.1 hk with rfl|hk
  ·have:=g a (by simp)
   have h1:=h.1
   show k≤lastI a r;omega
  ·exact g k hk
theorem Zjx {P:Nat→Nat→Bool} {n:Nat}:∀ f i,i< n→n≤i+f+1→upI i (trail P n f i)∧lastI i (trail P n f i)=n - 1
 |0,i,h,g=>⟨trivial,by show i=n - 1;omega⟩
 |f+1,i,h,g=>by
  by_cases e:i+1< n
  ·rw [Zbb e]
   have b:=Zfh (P i) i (n - 2 - i)
   have:=Zjx (P:=P) (n:=n) f (nxt (P i) i (n - 2 - i)) ω ω
   exact⟨⟨ω,this.1⟩,this.2⟩
  ·rw [ZdU e]
   exact⟨trivial,by show i=n - 1;omega⟩
theorem ZpU (L:List (List RV)):∀ i,upI 0 (barI L (i+1))∧lastI 0 (barI L (i+1))≤i∧(i+1=L.length→lastI 0 (barI L (i+1))=i)
 |0=>⟨trivial,Nat.le_refl _,fun _=>rfl⟩
 |i+1=>by
  obtain⟨h1,h2,_⟩:=ZpU L i
  rw [show barI L (i+1+1)=bif (i+1)==0||(!(i+1+1==L.length)&&btwB (gdL (wAt L (((0 :: barI L (i+1)).getLast?).getD 0))) (wAt L (i+1)) (wAt L (i+1+1))) then barI L (i+1) else barI L (i+1)++ [i+1] from rfl]
  cases e:((i+1)==0||(!(i+1+1==L.length)&&btwB (gdL (wAt L (((0 :: barI L (i+1)).getLast?).getD 0))) (wAt L (i+1)) (wAt L (i+1+1)))) with
  |true=>
   simp only [cond_true]
   refine⟨h1,ω,fun g=> ?_⟩
   rw [beq_iff_eq.2 g] at e
   simp at e
  |false=>
   simp only [cond_false]
   have:=Zjw (k:=i+1) h1 ω
   exact⟨this.1,ω,fun _=>this.2⟩
theorem sumR {S:Nat→Rat} {c:Nat→Nat→Rat} (hS:∀ i,S (i+1)=S i+c i (i+1)) (ht:∀ i j k,c i k≤c i j+c j k) (i:Nat):∀ d,c i (i+1+d)≤S (i+1+d) - S i
 |0=>by have:=hS i;show c i (i+1)≤S (i+1) - S i;grind
 |d+1=>by
  have h1:=sumR hS ht i d
  have h2:=ht i (i+1+d) (i+1+d+1)
  have h3:=hS (i+1+d)
  show c i (i+1+d+1)≤S (i+1+d+1) - S i
  grind
theorem subR {S T:Nat→Rat} {c:Nat→Nat→Rat} {x:Nat→Nat} {m:Nat} (hS:∀ i,S (i+1)=S i+c i (i+1)) (ht:∀ i j k,c i k≤c i j+c j k) (h0:T 0≤S (x 0)) (hT:∀ j,j< m→T (j+1)=T j+c (x j) (x (j+1))) (hx:∀ j,j< m→x j< x (j+1)):∀ j,j≤m→T j≤S (x j)
 |0,_=>h0
 |j+1,h=>by
  have h1:=subR hS ht h0 hT hx j ω
  have h2:=hT j ω
  have h3:=hx j ω
  have h4:=sumR hS ht (x j) (x (j+1) - x j - 1)
  rw [show x j+1+(x (j+1) - x j - 1)=x (j+1) by omega] at h4
  grind
theorem sumZ {S:Nat→Int} {c:Nat→Nat→Int} (hS:∀ i,S (i+1)=S i+c i (i+1)) (ht:∀ i j k,c i k≤c i j+c j k) (i:Nat):∀ d,c i (i+1+d)≤S (i+1+d) - S i
 |0=>by have:=hS i;show c i (i+1)≤S (i+1) - S i;omega
 |d+1=>by
  have h1:=sumZ hS ht i d
  have h2:=ht i (i+1+d) (i+1+d+1)
  have h3:=hS (i+1+d)
  show c i (i+1+d+1)≤S (i+1+d+1) - S i
  omega
theorem subZ {S T:Nat→Int} {c:Nat→Nat→Int} {x:Nat→Nat} {m:Nat} (hS:∀ i,S (i+1)=S i+c i (i+1)) (ht:∀ i j k,c i k≤c i j+c j k) (h0:T 0≤S (x 0)) (hT:∀ j,j< m→T (j+1)=T j+c (x j) (x (j+1))) (hx:∀ j,j< m→x j< x (j+1)):∀ j,j≤m→T j≤S (x j)
 |0,_=>h0
 |j+1,h=>by
  have h1:=subZ hS ht h0 hT hx j ω
  have h2:=hT j ω
  have h3:=hx j ω
  have h4:=sumZ hS ht (x j) (x (j+1) - x j - 1)
  rw [show x j+1+(x (j+1) - x j - 1)=x (j+1) by omega] at h4
  omega
theorem Zgx (q:Rat):absV q=if 0≤q then q else -q:=by
 have h:=Rat.num_nonneg (q:=q)
 unfold absV
 by_cases g:0≤q
 ·rw [if_pos g,if_neg (by have:=h.2 g;omega)]
 ·rw [if_neg g,if_pos (by
   have:¬ 0≤q.num:=fun k=>g (h.1 k)
   omega)]
theorem Zk4 (a b c:Rat):absV (c - a)≤absV (b - a)+absV (c - b):=by
 rw [Zgx,Zgx,Zgx]
 (repeat' split)<;>grind
def dsL (p q:List RV):Nat→Rat
 |0=>0
 |k+1=>dsL p q k+absV (qAt q k - qAt p k)
theorem Zpl (p q r:List RV):∀ n,dsL p r n≤dsL p q n+dsL q r n
 |0=>by show (0:Rat)≤0+0;decide+kernel
 |n+1=>by
  have h:=Zpl p q r n
  have g:=Zk4 (qAt p n) (qAt q n) (qAt r n)
  show dsL p r n+_≤dsL p q n+_+(dsL q r n+_)
  grind
theorem Zns (L:List (List RV)) (i:Nat):∀ n,rowM L (i+1) n=dsL (wAt L i) (wAt L (i+1)) n
 |0=>rfl
 |n+1=>by
  show rowM L (i+1) n+chg L (i+1) n=_
  rw [Zns L i n];rfl
theorem ZhT (L:List (List RV)) (n i:Nat):allM L n (i+2)=allM L n (i+1)+dsL (wAt L i) (wAt L (i+1)) n:=by
 show allM L n (i+1)+rowM L (i+1) n=_
 rw [Zns]
theorem Zoj {L:List (List RV)} {n m:Nat} (h:L.length=m+1):meaF L n L.length 0=allM L n (m+1):=by
 rw [h]
 show allM L n (m+1)+0=_
 grind
def ptI (L:List (List RV)) (I:List Nat):List (List RV):=I.map fun i=>(gdL (wAt L i)).map cn
theorem Zts (L:List (List RV)) (I:List Nat):(ptI L I).length=I.length:=length_map ..
theorem ZjY (q:List RV) (k:Nat):qAt ((gdL q).map cn) k=qAt q k:=by
 unfold qAt gdL
 rw [map_map,getElem?_map]
 cases q[k]? with
 |none=>rfl
 |some x=>simp [cn_q]
theorem ZfI {L:List (List RV)} {I:List Nat} {j:Nat} (h:j< I.length):wAt (ptI L I) j=(gdL (wAt L ((I[j]?).getD 0))).map cn:=by
 refine ZH ?_
 unfold ptI
 rw [getElem?_map,getElem?_eq_getElem h];rfl
theorem ZsL (p q:List RV):∀ n,dsL ((gdL p).map cn) ((gdL q).map cn) n=dsL p q n
 |0=>rfl
 |n+1=>by
  show dsL _ _ n+absV (qAt ((gdL q).map cn) n - qAt ((gdL p).map cn) n)=_
  rw [ZsL p q n,ZjY,ZjY];rfl
theorem ZtE {L:List (List RV)} {I:List Nat} {n:Nat} (hu:upI 0 I) (hl:lastI 0 I+1=L.length):meaF (ptI L (0 :: I)) n (ptI L (0 :: I)).length 0≤meaF L n L.length 0:=by
 rw [Zoj (m:=I.length) (by rw [Zts];rfl),Zoj (m:=lastI 0 I) hl.symm]
 have h:=subR (S:=fun i=>allM L n (i+1)) (T:=fun i=>allM (ptI L (0 :: I)) n (i+1)) (c:=fun i k=>dsL (wAt L i) (wAt L k) n) (x:=plI I) (m:=I.length)
  (fun i=>ZhT L n i) (fun i j k=>Zpl _ _ _ n) (by show allM _ n 0+rowM _ 0 n≤allM L n 0+rowM L 0 n;rw [ZjQ,ZjQ];exact Rat.le_refl)
  (fun j hj=>by
   show allM _ n (j+2)=_
   rw [ZhT,ZfI (by simp;omega),ZfI (by simp;omega),ZsL];rfl)
  (fun j hj=>ZmB hu hj) I.length (Nat.le_refl _)
 rw [show plI I I.length=lastI 0 I from Zds] at h
 exact h
theorem Zun {f g h:Rat} (hg:0≤g) (hh:0≤h) (hf:f≤g+h):clQ f≤clQ g+clQ h:=by
 have t:∀ {q:Rat},0≤q→0≤clQ q:=by
  intro q hq
  by_cases b:((2000:Int):Rat)< q
  ·rw [Zcn b];omega
  ·rw [(Zap b).1];exact(ZsI hq b).2.1
 have u:clQ f≤2001:=by
  by_cases b:((2000:Int):Rat)< f
  ·rw [Zcn b];exact Int.le_refl _
  ·have:=Zap b;omega
 have tg:=t hg
 have th:=t hh
 by_cases bg:((2000:Int):Rat)< g
 ·rw [Zcn bg];omega
 by_cases bh:((2000:Int):Rat)< h
 ·rw [Zcn bh];omega
 rw [(Zap bg).1,(Zap bh).1]
 have a1:g≤((clI g:Int):Rat):=ZfA.1 (Int.le_refl _)
 have a2:h≤((clI h:Int):Rat):=ZfA.1 (Int.le_refl _)
 have a3:clI f≤clI g+clI h:=ZfA.2 (by rw [Rat.intCast_add];grind)
 by_cases bf:((2000:Int):Rat)< f
 ·rw [Zcn bf]
  have:=Zsl.2 bf;omega
 ·rw [(Zap bf).1];exact a3
theorem ZmK {f g h:Nat→Rat}:∀ {n:Nat},(∀ i,i< n→0≤g i∧0≤h i∧f i≤g i+h i)→tkN f n≤tkN g n+tkN h n
 |0,_=>by show (1:Int)≤1+1;omega
 |n+1,H=>by
  have h1:=ZmK (f:=f) (g:=g) (h:=h) (n:=n) fun i hi=>H i ω
  obtain⟨a,b,c⟩:=H n ω
  have h2:=Zun a b c
  show max _ _≤max _ _+max _ _
  omega
theorem Zs8 {A:ArmV} (hA:armE A=0) {i:Nat} (hi:i< A.links.length):0< spdAt A i:=by
 have hk:=getElem?_eq_getElem hi
 have hs:=(ZR hA (List.mem_of_getElem? hk)).2.2.2.2.2.2.2.1
 rw [Zdw hk];exact hs
theorem Zs1 {A:ArmV} (hA:armE A=0) (p q r:List RV):tkA A p r≤tkA A p q+tkA A q r:=by
 refine ZmK fun i hi=> ?_
 have hk:=getElem?_eq_getElem hi
 refine⟨Zh3 hA _ _ hk,Zh3 hA _ _ hk,?_⟩
 have hs:=Zs8 hA hi
 have h:=Zk4 (qAt p i) (qAt q i) (qAt r i)
 have hv:=Rat.le_of_lt (Rat.inv_pos.2 hs)
 have h2:=Rat.mul_le_mul_of_nonneg_right h hv
 unfold tkQ
 rw [Rat.div_def,Rat.div_def,Rat.div_def]
 rw [Rat.add_mul] at h2
 exact h2
theorem ZuY (A:ArmV) (p q:List RV):tkQ A ((gdL p).map cn) ((gdL q).map cn)=tkQ A p q:=by
 funext i;unfold tkQ;rw [ZjY,ZjY]
theorem Zu0 (A:ArmV) (p q:List RV):tkA A ((gdL p).map cn) ((gdL q).map cn)=tkA A p q:=by unfold tkA;rw [ZuY]
theorem Zs0 {A:ArmV} (hA:armE A=0) {L:List (List RV)} {I:List Nat} (hu:upI 0 I):∀ j,j≤I.length→tkS A (ptI L (0 :: I)) 0 j≤tkS A L 0 (plI I j):=
 subZ (S:=tkS A L 0) (T:=tkS A (ptI L (0 :: I)) 0) (c:=fun i k=>tkA A (wAt L i) (wAt L k)) (x:=plI I) (m:=I.length)
  (fun _=>rfl) (fun i j k=>Zs1 hA _ _ _) (Int.le_refl _)
  (fun j hj=>by
   show tkS A _ 0 j+tkA A _ _=_
   rw [ZfI (by simp;omega),ZfI (by simp;omega),Zu0];rfl)
  (fun j hj=>ZmB hu hj)
theorem Zqc (A:ArmV) (L:List (List RV)) {i k:Nat} (h:i≤k):tkS A L 0 i≤tkS A L 0 k:=by
 obtain⟨d,rfl⟩:∃ d,k=i+d:=⟨k - i,ω⟩
 induction d with
 |zero=>exact Int.le_refl _
 |succ d ih=>
  have h1:=ih ω
  have g:=(ZfN A (wAt L (i+d)) (wAt L (i+d+1))).1
  have e:tkS A L 0 (i+(d+1))=tkS A L 0 (i+d)+tkA A (wAt L (i+d)) (wAt L (i+d+1)):=rfl
  omega
theorem Zcz {n:Int} {d:Nat} (hn:n.natAbs≤1000000) (h0:0< d) (hd:d≤1000):smallP (cn ((n:Rat) / (d:Rat))):=by
 obtain⟨h1,h2⟩:=Zft n d h0
 refine Zbd ?_ ?_
 ·rw [h1,Int.natAbs_ediv_of_dvd (Int.ofNat_dvd_left.2 (Nat.gcd_dvd_left _ _)),Int.natAbs_natCast]
  exact Nat.le_trans (Nat.div_le_self ..) hn
 ·rw [h2];exact Nat.le_trans (Nat.div_le_self ..) hd
theorem ZbE {a:Int} (h:a.natAbs≤1000000):smallP (cn (qtr a)):=Zcz h ωd ωd
theorem Ztl {a:Int} (h:0< a):0< qtr a:=by
 unfold qtr;rw [Rat.div_def];exact Rat.mul_pos (Rat.intCast_pos.2 h) ωk
theorem Zso (l:List Int) (p:Nat):lgM l p=4∨lgM l p=6∨lgM l p=8∨lgM l p=10:=by
 have:=Zu l p (n:=4) ωd;unfold lgM;omega
theorem thrN {s:Int} (h:0≤s∧s< 6):-2≤thr (-1 - s)∧thr (-1 - s)< 0:=by
 have:s=0∨s=1∨s=2∨s=3∨s=4∨s=5:=ω
 rcases this with rfl|rfl|rfl|rfl|rfl|rfl<;>decide+kernel
theorem thrP {s:Int} (h:0≤s∧s< 6):0< thr (1+s)∧thr (1+s)≤2:=by
 have:s=0∨s=1∨s=2∨s=3∨s=4∨s=5:=ω
 rcases this with rfl|rfl|rfl|rfl|rfl|rfl<;>decide+kernel
theorem ZoX {d:Int} (h:0< d):0< ivr d:=by
 unfold ivr;rw [Rat.div_def]
 exact Rat.mul_pos ωk (Rat.inv_pos.2 (Rat.natCast_pos.2 ω))
theorem Zt3 {s:Int} (h:0≤s∧s< 8):(1:Rat) / 11≤ivr (4+s):=by
 have:s=0∨s=1∨s=2∨s=3∨s=4∨s=5∨s=6∨s=7:=ω
 rcases this with rfl|rfl|rfl|rfl|rfl|rfl|rfl|rfl<;>decide+kernel
theorem ZgX {d:Int} (h:0< d∧d< 256):smallP (cn (ivr d)):=Zcz ωd ω ω
theorem ZgW {n:Int} (h:-256< n∧n< 256):smallP (cn (thr n)):=Zcz ω ωd ωd
theorem ZiA {P:List (Int×Int)} {i:Nat} (hi:i< P.length):pts (qtL P) i=(qtr (P[i]?.getD (0,0)).1,qtr (P[i]?.getD (0,0)).2):=by
 unfold pts qtL
 rw [getElem?_map,getElem?_eq_getElem hi]
 simp only [Option.map_some,Option.getD_some,cn_q]
theorem ZnG (P:List (Int×Int)):(qtL P).length=P.length:=length_map ..
theorem ZjV {P:List (Int×Int)} (h3:3≤P.length) (h8:P.length≤8) (he:EdgesI P):convE 8 (qtL P)=0:=by
 rw [Zan,ZnG]
 refine⟨ω,ω,fun i k hi h2 hk=> ?_⟩
 rw [ZiA hi,ZiA (Nat.mod_lt _ ω),ZiA (Nat.mod_lt _ ω)]
 exact Ztu (he i k hi h2 hk)
theorem Zve (l:List Int) (p:Nat):EdgesI (shM l p)∧3≤(shM l p).length∧(shM l p).length≤4∧∀ c,c∈shM l p→c.1.natAbs≤11∧c.2.natAbs≤11:=by
 have hb:=Zso l p
 unfold shM rctI
 generalize lgM l p=w at*
 (repeat' split)
 all_goals
  refine⟨?_,by simp,by simp,?_⟩
  ·intro i k hi h2 hk
   simp only [List.length_cons,List.length_nil] at hi hk ⊢
   have ci:i=0∨i=1∨i=2∨i=3:=ω
   have ck:k=2∨k=3:=ω
   rcases ci with rfl|rfl|rfl|rfl<;>rcases ck with rfl|rfl<;>first
    |(exfalso;omega)
    |(simp [oriI];rcases hb with rfl|rfl|rfl|rfl<;>omega)
  ·intro c hc
   simp only [mem_cons,not_mem_nil,or_false] at hc
   first
    |(rcases hc with rfl|rfl|rfl<;>simp only<;>omega)
    |(rcases hc with rfl|rfl|rfl|rfl<;>simp only<;>omega)
theorem ZvF (l:List Int) (j:Nat):linkE (lkM l j)=0:=by
 have hg:=Zso l (3+6*j)
 have s1:=Zu l (3+6*j+1) (n:=6) ωd
 have s2:=Zu l (3+6*j+2) (n:=6) ωd
 have s3:=Zu l (3+6*j+3) (n:=8) ωd
 have s4:=Zu l (3+6*j+4) (n:=20) ωd
 obtain⟨e1,e2,e3,e4⟩:=Zve l (3+6*j)
 have b:¬ linkBad (lkM l j):=by
  rintro(h|h|h|h|h|h|h|h|h)
  ·exact h (ZbE ω)
  ·exact h (ZgW ω)
  ·exact h (ZgW ω)
  ·exact h (ZgX ω)
  ·exact h (ZgX ω)
  ·have h:(cn (qtr (lgM l (3+6*j)))).q≤0:=h
   rw [cn_q] at h
   exact absurd (Ztl (a:=lgM l (3+6*j)) ω) (Rat.not_lt.2 h)
  ·have h:(cn (thr (1+sv l (3+6*j+2) 6))).q≤(cn (thr (-1 - sv l (3+6*j+1) 6))).q:=h
   rw [cn_q,cn_q] at h
   have:=(thrN s1).2;have:=(thrP s2).1
   grind
  ·have h:(cn (ivr (4+sv l (3+6*j+3) 8))).q≤0:=h
   rw [cn_q] at h
   exact absurd (ZoX (d:=4+sv l (3+6*j+3) 8) ω) (Rat.not_lt.2 h)
  ·have h:(cn (ivr (10+sv l (3+6*j+4) 20))).q≤0:=h
   rw [cn_q] at h
   exact absurd (ZoX (d:=10+sv l (3+6*j+4) 20) ω) (Rat.not_lt.2 h)
 have c:convE 8 (lkM l j).shape=0:=ZjV e2 ω e1
 unfold linkE
 rw [if_neg b,if_pos c,if_neg]
 rintro⟨p,hp,hn⟩
 obtain⟨x,hx,rfl⟩:=List.mem_map.1 (show p∈qtL (shM l (3+6*j)) from hp)
 have:=e4 x hx
 exact hn ⟨ZbE ω,ZbE ω⟩
theorem ZlL {ls:List LinkV} (h:∀ l,l∈ls→linkE l=0):linksE ls=0:=by
 induction ls with
 |nil=>rfl
 |cons a r ih=>unfold linksE;rw [if_pos (h a (by simp))];exact ih fun l hl=>h l (List.mem_cons_of_mem _ hl)
theorem Zbz (l:List Int):armE (armM l)=0:=by
 have hc:=ZeG l
 have hn:(armM l).links.length=cntM l:=Zbr l _
 have s1:=Zu l 1 (n:=3) ωd
 have s0:=ZrW (sv l 0 4)
 have hb:¬ baseBad (armM l):=by
  rintro(h|h|h|h|h)
  ·omega
  ·exact h (ZbE ωd)
  ·exact h (ZbE ωd)
  ·exact h (Zcz ω ω ω)
  ·exact Bool.noConfusion h.1
 unfold armE
 rw [if_pos (show nameOk (armM l).name=true from(by decide+kernel:nameOk nmM=true)),if_neg ω,if_neg hb]
 refine ZlL fun k hk=> ?_
 obtain⟨j,hj,rfl⟩:=List.mem_map.1 (show k∈(range (cntM l)).map (lkM l) from hk)
 exact ZvF l j
theorem Zdf (l:List Int):(armM l).ok:=by
 have hE:=Zbz l
 have hc:=ZeG l
 have hn:(armM l).links.length=cntM l:=Zbr l _
 obtain⟨a1,a2,a3,a4,a5,a6,a7⟩:=Zad hE
 have up:∀ {x:RV},smallP x→x.z≤67108864:=fun h=>Nat.le_trans (ZT h) ωd
 refine⟨(by decide+kernel:nmM.size≤67108864),up a3,up a4,up a5,ω,fun k hk=> ?_⟩
 obtain⟨b1,b2,b3,b4,b5,b6,b7,b8,b9,b10,b11⟩:=ZR hE hk
 have:=(Zan.1 b10).1
 exact⟨up b1,up b2,up b3,up b4,up b5,ω,fun p hp=>⟨up (b11 p hp).1,up (b11 p hp).2⟩⟩
theorem Zke (q:Rat):q*(q.den:Rat)=(q.num:Rat):=by
 have h:(q.num:Rat) / (q.den:Rat)=q:=by rw [← Rat.mkRat_eq_div];exact Rat.mkRat_self q
 have d:((q.den:Nat):Rat)≠0:=fun e=>q.den_nz (Rat.natCast_eq_zero_iff.1 e)
 rw [Rat.div_def] at h
 have g:((q.den:Nat):Rat)⁻¹*((q.den:Nat):Rat)=1:=Rat.inv_mul_cancel _ d
 generalize ((q.den:Nat):Rat)=e at*
 generalize e⁻¹=f at*
 generalize ((q.num:Int):Rat)=n at*
 subst h
 grind
theorem ZwW (l m:List Int) (j:Nat):cfV l m j=loT l j+(hiT l j - loT l j)*((sv m j 9:Int):Rat)*(1 / 8):=by
 have h1:(loT l j)*((loT l j).den:Rat)=((loT l j).num:Rat):=Zke _
 have h2:(hiT l j)*((hiT l j).den:Rat)=((hiT l j).num:Rat):=Zke _
 have d1:((loT l j).den:Rat)≠0:=fun h=>(loT l j).den_nz (Rat.natCast_eq_zero_iff.1 h)
 have d2:((hiT l j).den:Rat)≠0:=fun h=>(hiT l j).den_nz (Rat.natCast_eq_zero_iff.1 h)
 unfold cfV cfN
 simp only [Rat.intCast_add,Rat.intCast_mul,Rat.intCast_sub,Rat.natCast_mul,Rat.intCast_natCast,← h1,← h2]
 generalize (loT l j)=a at*
 generalize (hiT l j)=b at*
 generalize (((a.den:Nat)):Rat)=d at*
 generalize (((b.den:Nat)):Rat)=e at*
 generalize ((sv m j 9:Int):Rat)=k at*
 have e8:((8:Int):Rat)=8:=rfl
 have n8:((8:Nat):Rat)=8:=rfl
 rw [e8,n8]
 grind
theorem Zwm (l m:List Int) (j:Nat):loT l j≤cfV l m j∧cfV l m j≤hiT l j:=by
 have s1:=(thrN (Zu l (3+6*j+1) (n:=6) ωd)).2
 have s2:=(thrP (Zu l (3+6*j+2) (n:=6) ωd)).1
 have s9:=Zu m j (n:=9) ωd
 have h:0≤hiT l j - loT l j:=by
  show 0≤thr _ - thr _
  grind
 have k0:(0:Rat)≤((sv m j 9:Int):Rat):=Rat.intCast_nonneg.2 s9.1
 have k8:((sv m j 9:Int):Rat)≤8:=Rat.intCast_le_intCast.2 (show sv m j 9≤8 by omega)
 have m1:=Rat.mul_nonneg h k0
 have m2:=Rat.mul_nonneg h (show 0≤8 - ((sv m j 9:Int):Rat) by grind)
 rw [ZwW]
 generalize hiT l j=b at*
 generalize loT l j=a at*
 generalize ((sv m j 9:Int):Rat)=k at*
 constructor<;>grind
theorem ZsP (l m:List Int) (j:Nat):-2≤cfV l m j∧cfV l m j≤2:=by
 have s1:=(thrN (Zu l (3+6*j+1) (n:=6) ωd)).1
 have s2:=(thrP (Zu l (3+6*j+2) (n:=6) ωd)).2
 have h:=Zwm l m j
 have a1:-2≤loT l j:=s1
 have a2:hiT l j≤2:=s2
 constructor<;>grind
theorem cf_z (l m:List Int) (j:Nat):(cn (cfV l m j)).z≤3:=by
 have h:=ZpK l m j
 exact ZT (Zcz (by have:=h.1.2;omega) (by have:=h.2.2;omega) (by have:=h.2.2;omega))
theorem ZdI {α β:Type} {P:List α} {f:α→β} {a:α} {b:β} {i:Nat} (h:i< P.length):((P.map f)[i]?).getD b=f ((P[i]?).getD a):=by
 rw [getElem?_map,getElem?_eq_getElem h];rfl
theorem ZhW {P:List (Int×Int)} {x y:Int} (h:EdgesI P):EdgesI (P.map fun p=>(p.1+x,p.2+y)):=by
 intro i k hi h2 hk
 rw [length_map] at hi hk ⊢
 rw [ZdI (a:=(0,0)) hi,ZdI (a:=(0,0)) (Nat.mod_lt _ ω),ZdI (a:=(0,0)) (Nat.mod_lt _ ω)]
 have:=h i k hi h2 hk
 unfold oriI at this ⊢
 simp only
 rw [show ∀ a b c:Int,a+c - (b+c)=a - b from fun a b c=>ω,show ∀ a b c:Int,a+c - (b+c)=a - b from fun a b c=>ω,show ∀ a b c:Int,a+c - (b+c)=a - b from fun a b c=>ω,show ∀ a b c:Int,a+c - (b+c)=a - b from fun a b c=>by omega]
 exact this
theorem ZuJ (w:List Int):wallsE (wlsV w (wcM w))=0:=by
 have hc:=Zms w
 refine Zjt (by rw [Zdr];omega) fun j hj=> ?_
 rw [Zdr] at hj
 have e:((wlsV w (wcM w))[j]?).getD []=qtL (wlI w j):=by
  unfold wlsV;rw [getElem?_map,getElem?_range hj];rfl
 have hn:=Zec (wlT w j)
 have hl:(wlI w j).length=(polyI (wlT w j)).length:=length_map ..
 rw [e]
 exact ZjV ω ω (ZhW (ZiB _))
theorem ZuI (w:List Int):(wlsV w (wcM w)).length≤1048576∧∀ m,m∈wlsV w (wcM w)→m.length≤1048576∧∀ p,p∈m→p.1.z≤1048576∧p.2.z≤1048576:=by
 have hc:=Zms w
 refine⟨by rw [Zdr];omega,fun m hm=> ?_⟩
 obtain⟨i,hi,rfl⟩:=List.mem_map.1 (show m∈(range (wcM w)).map fun i=>qtL (wlI w i) from hm)
 have hn:=Zec (wlT w i)
 have hl:(wlI w i).length=(polyI (wlT w i)).length:=length_map ..
 have hx:=ZrN w i
 have hy:=ZrM w i
 refine⟨by rw [ZnG];omega,fun p hp=> ?_⟩
 obtain⟨a,ha,rfl⟩:=List.mem_map.1 (show p∈(wlI w i).map fun p=>(cn (qtr p.1),cn (qtr p.2)) from hp)
 obtain⟨b,hb,rfl⟩:=List.mem_map.1 (show a∈(polyI (wlT w i)).map fun p=>(p.1+wlX w i,p.2+wlY w i) from ha)
 have:=Zj4 _ b hb
 exact⟨ZlB (by simp only;omega),ZlB (by simp only;omega)⟩
def cnL (W:List (List Rat)):List (List RV):=W.map fun q=>q.map cn
theorem Zao (W:List (List Rat)):(cnL W).length=W.length:=length_map ..
theorem ZbY (W:List (List Rat)):map rdrs (cnL W)=map rdcs W:=by
 unfold cnL
 rw [map_map]
 refine List.map_congr_left fun q _=> ?_
 show [D.list (map rd (q.map cn))]= [D.list (map rdc q)]
 rw [map_map];rfl
theorem ZsE (q:List Rat):gdL (q.map cn)=q:=by
 unfold gdL
 rw [map_map]
 conv=>rhs;rw [← List.map_id q]
 exact List.map_congr_left fun x _=>cn_q x
def rAtW (W:List (List Rat)) (i:Nat):List Rat:=(W[i]?).getD []
theorem ZfJ (W:List (List Rat)) (i:Nat):wAt (cnL W) i=(rAtW W i).map cn:=by
 unfold wAt cnL rAtW
 rw [getElem?_map]
 cases W[i]? <;>rfl
theorem ZfZ (W:List (List Rat)) (I:List Nat):rowQ (cnL W) I=I.map (rAtW W):=by
 unfold rowQ
 refine List.map_congr_left fun i _=> ?_
 rw [ZfJ,ZsE]
theorem ZnO (L:List (List RV)) (I:List Nat):ptI L I=cnL (rowQ L I):=by
 unfold ptI cnL rowQ;rw [map_map];rfl
def gdW (A:ArmV) (W:List (List Rat)):Prop:=(1≤W.length∧W.length≤60)∧∀ q,q∈W→fitsE A (q.map cn)=0∧q.length≤3∧∀ x,x∈q→(cn x).z≤3
theorem ZiX {A:ArmV} {W:List (List Rat)} (g:gdW A W):(cnL W).length≤1048576∧∀ q,q∈cnL W→q.length≤1048576∧∀ x,x∈q→x.z≤1048576:=by
 refine⟨by rw [Zao];have:=g.1;omega,fun q hq=> ?_⟩
 obtain⟨r,hr,rfl⟩:=List.mem_map.1 (show q∈W.map fun q=>q.map cn from hq)
 obtain⟨_,h2,h3⟩:=g.2 r hr
 refine⟨by rw [length_map];omega,fun x hx=> ?_⟩
 obtain⟨y,hy,rfl⟩:=List.mem_map.1 hx
 have:=h3 y hy;omega
theorem ZkE {A:ArmV} {q:List RV} (h:fitsE A q=0):hasE A (q.length:Int)=0:=by
 unfold fitsE at h
 by_cases e:hasE A (q.length:Int)=0
 ·exact e
 ·rw [if_neg e] at h;exact h
theorem ZiY {A:ArmV} {W:List (List Rat)} (g:gdW A W) {i:Nat} (hi:i< W.length):fitsE A (wAt (cnL W) i)=0:=by
 rw [ZfJ]
 refine(g.2 _ ?_).1
 unfold rAtW;rw [getElem?_eq_getElem hi];exact List.getElem_mem hi
theorem Zes {A:ArmV} {W:List (List Rat)} (hA:armE A=0) (g:gdW A W):chkE A (cnL W)=0:=by
 have:=g.1
 refine ZsO ?_ fun j hj=> ?_
 ·unfold wayBase;rw [if_pos hA,if_neg (by rw [Zao];omega),if_neg (by rw [Zao];omega)]
 ·rw [Zao] at hj;exact ZkE (ZiY g hj)
theorem Zo5 {A:ArmV} {W:List (List Rat)} (hA:armE A=0) (g:gdW A W) (ht:tkS A (cnL W) 0 (W.length - 1)≤2000):plnE A (cnL W) 0=0∧plnV A (cnL W) 0=plnL A (cnL W) 0 (cnL W).length:=by
 have:=g.1
 refine ZnU hA (by rw [Zao];omega) (by rw [Zao];omega) ωd (fun i hi=> ?_) fun i hi=> ?_
 ·rw [Zao] at hi;exact ZiY g hi
 ·rw [Zao] at hi
  exact Int.le_trans (Zqc A (cnL W) (show i≤W.length - 1 by omega)) ht
theorem Zt5 {A:ArmV} {W:List (List Rat)} {Wl:List (List (RV×RV))} (hA:armE A=0) (g:gdW A W) (hw:wallsE Wl=0):cutE A (cnL W) Wl 2=0:=by
 have h0:=ZkE (ZiY g (i:=0) (by have:=g.1;omega))
 have h1:=(Zad hA).1
 have h2:=(Z3.1 h0).2
 rw [Zpw (Zes hA g)]
 refine Zcf.2 ⟨h0,?_,hw⟩
 unfold splitBad;omega
theorem ZmA:∀ {I:List Nat} {i:Nat},upI i I→i+I.length≤lastI i I
 | [],_,_=>Nat.le_refl _
 |k :: r,i,h=>by
  have:=ZmA (I:=r) h.2
  have:=h.1
  show i+(r.length+1)≤lastI k r;omega
theorem Zj8 {A:ArmV} {W:List (List Rat)} {I:List Nat} (n:Nat) (hA:armE A=0) (g:gdW A W) (hu:upI 0 I) (hl:lastI 0 I+1=W.length):
  gdW A (rowQ (cnL W) (0 :: I))∧rAtW (rowQ (cnL W) (0 :: I)) 0=rAtW W 0∧rAtW (rowQ (cnL W) (0 :: I)) ((rowQ (cnL W) (0 :: I)).length - 1)=rAtW W (W.length - 1)∧
  meaF (cnL (rowQ (cnL W) (0 :: I))) n (cnL (rowQ (cnL W) (0 :: I))).length 0≤meaF (cnL W) n (cnL W).length 0∧
  tkS A (cnL (rowQ (cnL W) (0 :: I))) 0 ((rowQ (cnL W) (0 :: I)).length - 1)≤tkS A (cnL W) 0 (W.length - 1):=by
 have hlen:(rowQ (cnL W) (0 :: I)).length=I.length+1:=length_map ..
 have hul:=ZmA hu
 have hlt:=ZrQ hu
 have hgd:=g.1
 have e0:lastI 0 I=W.length - 1:=ω
 refine⟨⟨ω,fun q hq=> ?_⟩,?_,?_,?_,?_⟩
 ·rw [ZfZ] at hq
  obtain⟨i,hi,rfl⟩:=List.mem_map.1 hq
  have:=hlt i hi
  refine g.2 _ ?_
  unfold rAtW;rw [getElem?_eq_getElem (show i< W.length by omega)];exact List.getElem_mem _
 ·rw [ZfZ];rfl
 ·rw [hlen,ZfZ,← e0,← Zds]
  show rAtW _ I.length=_
  exact ZdI (f:=rAtW W) (a:=0) (b:= []) (P:=0 :: I) (i:=I.length) (by simp)
 ·rw [← ZnO]
  exact ZtE hu (by rw [Zao];exact hl)
 ·have h:=Zs0 hA (L:=cnL W) hu I.length (Nat.le_refl _)
  rw [← ZnO,← e0,hlen]
  rw [show plI I I.length=lastI 0 I from Zds] at h
  exact h
theorem Zm7 {A:ArmV} {W:List (List Rat)} {Wl:List (List (RV×RV))} (n:Nat) (hA:armE A=0) (g:gdW A W) (hw:wallsE Wl=0):
  cutE A (cnL W) Wl 2=0∧gdW A (cutV A (cnL W) Wl 2)∧gdW A (spnV A (cnL (cutV A (cnL W) Wl 2)))∧
  rAtW (spnV A (cnL (cutV A (cnL W) Wl 2))) 0=rAtW W 0∧rAtW (spnV A (cnL (cutV A (cnL W) Wl 2))) ((spnV A (cnL (cutV A (cnL W) Wl 2))).length - 1)=rAtW W (W.length - 1)∧
  meaF (cnL (spnV A (cnL (cutV A (cnL W) Wl 2)))) n (cnL (spnV A (cnL (cutV A (cnL W) Wl 2)))).length 0≤meaF (cnL W) n (cnL W).length 0∧
  tkS A (cnL (spnV A (cnL (cutV A (cnL W) Wl 2)))) 0 ((spnV A (cnL (cutV A (cnL W) Wl 2))).length - 1)≤tkS A (cnL W) 0 (W.length - 1):=by
 have hc:=Zt5 hA g hw
 have hgd:=g.1
 have hl:=Zao W
 refine⟨hc,?_⟩
 rw [Zi7 hc]
 have u1:=Zjx (P:=prv A (cnL W) Wl 2) (n:=(cnL W).length) (cnL W).length 0 ω ω
 obtain⟨p1,p2,p3,p4,p5⟩:=Zj8 n hA g (I:=cutI A (cnL W) Wl 2) u1.1 (by rw [show lastI 0 (cutI A (cnL W) Wl 2)=(cnL W).length - 1 from u1.2];omega)
 generalize rowQ (cnL W) (0 :: cutI A (cnL W) Wl 2)=V at*
 have hk:=Zes hA p1
 rw [Zib hk]
 have hvl:=Zao V
 have hv:=p1.1
 obtain⟨t,ht⟩:∃ t,V.length=t+1:=⟨V.length - 1,ω⟩
 have u2:=ZpU (cnL V) t
 rw [show t+1=(cnL V).length by omega] at u2
 obtain⟨r1,r2,r3,r4,r5⟩:=Zj8 n hA p1 (I:=barI (cnL V) (cnL V).length) u2.1 (by have:=u2.2.2 ω;omega)
 exact⟨p1,r1,by rw [r2,p2],by rw [r3,p3],Rat.le_trans r4 p4,Int.le_trans r5 p5⟩
def cT (m:List Int) (i:Nat):List Int:= [sv m (1+3*i) 9,sv m (1+3*i+1) 9,sv m (1+3*i+2) 9]
theorem ZwX (m:List Int) (i:Nat):∀ x,x∈cT m i→-9223372036854775808≤x∧x≤9223372036854775807:=by
 intro x hx
 have h1:=Zu m (1+3*i) (n:=9) ωd
 have h2:=Zu m (1+3*i+1) (n:=9) ωd
 have h3:=Zu m (1+3*i+2) (n:=9) ωd
 simp only [cT,mem_cons,not_mem_nil,or_false] at hx
 rcases hx with rfl|rfl|rfl<;>omega
def wyM (l m:List Int) (n:Nat):List (List Rat):=(range n).map fun i=>cfF l (cT m i) (cntM l)
theorem Zp8 (l m:List Int) (n:Nat):wyM l m (n+1)=wyM l m n++ [cfF l (cT m n) (cntM l)]:=by unfold wyM;rw [range_succ,map_append];rfl
theorem ZfH (l m:List Int) (n:Nat):(wyM l m n).length=n:=by simp [wyM]
def wnM (m:List Int):Nat:=(2+sv m 0 3).toNat
theorem ZuH (m:List Int):2≤wnM m∧wnM m≤4∧(wnM m:Int)=2+sv m 0 3:=by have:=Zu m 0 (n:=3) ωd;unfold wnM;omega
theorem ZuG (l m:List Int) {n:Nat} (h1:1≤n) (h2:n≤60):gdW (armM l) (wyM l m n):=by
 have hc:=ZeG l
 refine⟨by rw [ZfH];omega,fun q hq=> ?_⟩
 obtain⟨i,hi,rfl⟩:=List.mem_map.1 (show q∈(range n).map fun i=>cfF l (cT m i) (cntM l) from hq)
 refine⟨Zpd (Zbz l) (by rw [length_map,Zjc];exact(Zbr l _).symm) fun j k x hk hx=> ?_,by rw [Zjc];omega,fun x hx=> ?_⟩
 ·obtain⟨rfl,hj⟩:=ZiM (show (lksM l (cntM l))[j]? =some k from hk)
  unfold cfF at hx
  rw [getElem?_map,getElem?_map,getElem?_range hj] at hx
  obtain rfl:cn (cfV l (cT m i) j)=x:=Option.some.inj hx
  have:=Zwm l (cT m i) j
  show (cn (thr (-1 - sv l (3+6*j+1) 6))).q≤_∧_≤(cn (thr (1+sv l (3+6*j+2) 6))).q
  rw [cn_q,cn_q,cn_q];exact this
 ·obtain⟨j,hj,rfl⟩:=List.mem_map.1 (show x∈(range (cntM l)).map (cfV l (cT m i)) from hx)
  exact cf_z l _ j
theorem Zr9 (l m:List Int) {n i j:Nat} (hi:i< n) (hj:j< cntM l):qAt (wAt (cnL (wyM l m n)) i) j=cfV l (cT m i) j:=by
 rw [ZfJ]
 have e:rAtW (wyM l m n) i=cfF l (cT m i) (cntM l):=by
  unfold rAtW wyM;rw [getElem?_map,getElem?_range hi];rfl
 rw [e]
 unfold qAt cfF
 rw [getElem?_map,getElem?_map,getElem?_range hj]
 exact cn_q _
theorem ZrY {f:Nat→Rat} {b:Int} (hb:1≤b∧b≤2000):∀ {n:Nat},(∀ i,i< n→f i≤(b:Rat))→tkN f n≤b
 |0,_=>hb.1
 |n+1,H=>by
  have h1:=ZrY (f:=f) hb (n:=n) fun i hi=>H i ω
  have h2:=H n ω
  have h3:¬ ((2000:Int):Rat)< f n:=fun e=>by
   have:(b:Rat)≤((2000:Int):Rat):=Rat.intCast_le_intCast.2 hb.2
   grind
  have h4:=(Zap h3).1
  have h5:=ZfA.2 h2
  show max _ _≤_;omega
theorem ZuZ (l m:List Int) {n i:Nat} (hi:i+1< n):tkA (armM l) (wAt (cnL (wyM l m n)) i) (wAt (cnL (wyM l m n)) (i+1))≤44:=by
 refine ZrY ωd fun j hj=> ?_
 have hj:j< cntM l:=by have:=Zbr l (cntM l);exact this ▸ hj
 unfold tkQ
 rw [Zr9 l m (n:=n) (i:=i+1) hi hj,Zr9 l m (n:=n) (i:=i) ω hj]
 have a:=ZsP l (cT m i) j
 have b:=ZsP l (cT m (i+1)) j
 have hk:(armM l).links[j]? =some (lkM l j):=by
  show (lksM l (cntM l))[j]? =_
  unfold lksM;rw [getElem?_map,getElem?_range hj];rfl
 rw [Zdw hk]
 have hs:(lkM l j).speed.q=ivr (4+sv l (3+6*j+3) 8):=cn_q _
 have h1:=Zt3 (Zu l (3+6*j+3) (n:=8) ωd)
 rw [hs]
 generalize ivr (4+sv l (3+6*j+3) 8)=s at*
 generalize cfV l (cT m i) j=x at*
 generalize cfV l (cT m (i+1)) j=y at*
 have h0:0< s:=by grind
 have hv:absV (y - x)≤4:=by
  rw [Zgx];split<;>grind
 have hp:=Zk5 (y - x)
 generalize absV (y - x)=t at*
 have hi:=Rat.le_of_lt (Rat.inv_pos.2 h0)
 have hc:s*s⁻¹=1:=Rat.mul_inv_cancel _ (by grind)
 rw [Rat.div_def]
 generalize s⁻¹=v at*
 have e1:=Rat.mul_nonneg (show 0≤s - 1 / 11 by grind) hi
 have e2:v≤11:=by grind
 have e3:=Rat.mul_nonneg (show 0≤4 - t by grind) hi
 have e44:((44:Int):Rat)=44:=rfl
 rw [e44]
 grind
theorem ZrX (l m:List Int) {n:Nat}:∀ i,i< n→tkS (armM l) (cnL (wyM l m n)) 0 i≤44*(i:Int)
 |0,_=>by show (0:Int)≤_;omega
 |i+1,h=>by
  have h1:=ZrX l m (n:=n) i ω
  have h2:=ZuZ l m h
  show tkS (armM l) _ 0 i+tkA _ _ _≤_
  omega
open Go.RowKit num mem seg q held ratA ratB ratC ratD ratE vars ratF prf natC natD natI sub32 trq
section
variable {K : AV → Prop}
theorem ZhC (L:List Rat) (hn:L.length≤1048576):Spec Tryz.prog Tab 11 [Xl rdc L,Xl rdc L] (bool true):=by
 have hLl:(map rdc L).length=L.length:=length_map ..
 refine Za Tryz.func11 rfl rfl Tryz.ntmps11 rfl ωr rfl rfl ?_
 refine⟨fun e1=> ?_,fun e1=> ?_⟩
 ·have f10:((map rdc L).length:Int)≠((map rdc L).length:Int):=ZU e1
  exfalso
  exact f10 rfl
 ·have f10:¬ (((map rdc L).length:Int)≠((map rdc L).length:Int)):=fun hh=>hh (ZV e1)
  refine⟨Nat,fun i=> [(0,Xl rdc L),(1,Xl rdc L),(12,int ((map rdc L).length:Int)),(13,int (i:Int))],
   fun i=> [],fun i=>i≤L.length,fun i=>L.length - i,0,?_,Nat.zero_le _,fun i hs=> ?_⟩
  ·exact ωe
  refine⟨fun e2=> ?_,fun e2=> ?_⟩
  ·have f14:(i:Int)< ((map rdc L).length:Int):=of_decide_eq_true e2
   refine get_ex (l:=L) (i:=i) ωm fun x18 hx18=> ?_
   refine k_ix i [Yb (cn x18),Ys (cn x18),Yt (cn x18)] ωf (Zc hx18) rfl ?_
   refine k_ix i [Yb (cn x18),Ys (cn x18),Yt (cn x18)] ωf (Zc hx18) rfl ?_
   refine ZiT rfl ?_
   refine⟨ωr,?_⟩
   refine⟨fun e=>absurd e ωd,fun _=> ?_⟩
   refine⟨i+1,ω,by simp only;omega,?_⟩
   constructor<;>(repeat' (first|exact rfl|exact True.intro|apply And.intro))
   all_goals first
    |exact ωb
    |exact ωa
  ·have f14:¬ ((i:Int)< ((map rdc L).length:Int)):=of_decide_eq_false e2
   refine Eq.trans (b:=bool true) ?_ rfl
   rfl
noncomputable def cuM (l m w:List Int) (n:Nat):List (List Rat):=cutV (armM l) (cnL (wyM l m n)) (wlsV w (wcM w)) 2
noncomputable def baM (l m w:List Int) (n:Nat):List (List Rat):=spnV (armM l) (cnL (cuM l m w n))
def meW (A:ArmV) (W:List (List Rat)):Rat:=meaF (cnL W) A.links.length (cnL W).length 0
def plW (A:ArmV) (W:List (List Rat)):List (Int×List Rat):=plnL A (cnL W) 0 (cnL W).length
theorem ZnW (A:ArmV) (W:List (List Rat)):(map keyC (plW A W)).length=W.length:=by
 unfold plW plnL plnG;rw [length_map,length_map,List.length_range,Zao]
theorem Zse {A:ArmV} {W:List (List Rat)} {i:Nat} (h:i< W.length):(map keyC (plW A W))[i]? =some [D.v (.int .i64 (tkS A (cnL W) 0 i)),D.list (map rdc (rAtW W i))]:=by
 unfold plW plnL plnG
 rw [getElem?_map,getElem?_map,getElem?_range (by rw [Zao];exact h)]
 simp only [Option.map_some,ZfJ,ZsE];rfl
theorem Zf2 {W:List (List Rat)} {i:Nat} {q:List Rat} (h:i< W.length) (e:rAtW W i=q):(map rdcs W)[i]? =some [D.list (map rdc q)]:=by
 rw [← e,getElem?_map,getElem?_eq_getElem h];unfold rAtW;rw [getElem?_eq_getElem h];rfl
theorem Zo6 {A:ArmV} {W:List (List Rat)} (g:gdW A W) (i:Nat):(rAtW W i).length≤1048576:=by
 unfold rAtW
 cases h:W[i]? with
 |none=>simp
 |some q=>have:=(g.2 q (List.mem_of_getElem? h)).2.1;simp only [Option.getD_some];omega
theorem ZvC {A:ArmV} {W:List (List Rat)} (hA:armE A=0) (g:gdW A W):qs (meW A W)≤383779748:=by
 have h1:=(Zad hA).1
 have h2:=g.1
 exact Zsj (ZiX g).2 h1 (by rw [Zao];omega) ω
theorem Zkj {A:ArmV} {W:List (List Rat)} (hA:armE A=0) (g:gdW A W):mesV A (cnL W)=cn (meW A W)∧chkE A (cnL W)=0:=⟨Zoi (Zes hA g),Zes hA g⟩
theorem ZuQ (l m w:List Int) {n:Nat} (h1:2≤n) (h2:n≤4):
  cutE (armM l) (cnL (wyM l m n)) (wlsV w (wcM w)) 2=0∧gdW (armM l) (wyM l m n)∧gdW (armM l) (cuM l m w n)∧gdW (armM l) (baM l m w n)∧
  rAtW (baM l m w n) 0=rAtW (wyM l m n) 0∧rAtW (baM l m w n) ((baM l m w n).length - 1)=rAtW (wyM l m n) ((wyM l m n).length - 1)∧
  meW (armM l) (baM l m w n)≤meW (armM l) (wyM l m n)∧tkS (armM l) (cnL (baM l m w n)) 0 ((baM l m w n).length - 1)≤tkS (armM l) (cnL (wyM l m n)) 0 ((wyM l m n).length - 1)∧
  tkS (armM l) (cnL (wyM l m n)) 0 ((wyM l m n).length - 1)≤2000:=by
 have g:=ZuG l m (n:=n) ω ω
 obtain⟨a1,a2,a3,a4,a5,a6,a7⟩:=Zm7 (armM l).links.length (Zbz l) g (ZuJ w)
 have t:=ZrX l m (n:=n) (n - 1) ω
 rw [ZfH] at*
 exact⟨a1,g,a2,a3,a4,a5,a6,a7,ω⟩
theorem ZfM (l:List Int) (hl:∀ x,x∈l→-9223372036854775808≤x∧x≤9223372036854775807) (m:List Int) (hm:∀ x,x∈m→-9223372036854775808≤x∧x≤9223372036854775807) (w:List Int) (hw:∀ x,x∈w→-9223372036854775808≤x∧x≤9223372036854775807):Spec Tryz.prog Tab 3 [Xl stD l,Xl stD m,Xl stD w] (bool true):=by
 have hnb:=ZuH m
 have hs0:=Zu m (0) (n:=3) ωd
 have hwr:IntKind.i64.wrap (2+sv m (0) 3)=(wnM m:Int):=by rw [wrap64 _ ω ω];omega
 refine ZcN [800030,800037,800039,800041] Tryz.func3 rfl rfl Tryz.ntmps3 rfl ωr rfl rfl ?_
 refine use Ziq rfl ?_
 refine⟨fun e=>absurd e ωd,fun _=> ?_⟩
 refine use (ZrL l hl) rfl ?_
 have hs1:=Zu m (0) (n:=3) ωd
 refine⟨int (sv m (0) 3), [D.list (map stD (m.drop ((0)+1)))],⟨⟨rfl,rfl⟩,ZM m (0) 3 hm ωd⟩,?_⟩
 refine⟨Nat,fun i=> [(2,Xl stD w),(7,.val (.one (.ptr 7 0))),(8,.val (.one (.ptr 28 0))),(9,.val (.one (.row 45 0))),(31,int (IntKind.i64.wrap (2+(sv m (0) 3)))),(32,int (i:Int))],
  fun i=> [(7,.var 34 [.d (.v (.string ((armM l).name))),Xb ((armM l).bx),Xs ((armM l).bx),Xt ((armM l).bx),Xb ((armM l).by'),Xs ((armM l).by'),Xt ((armM l).by'),.d (.v (.bool ((armM l).bh))),Xb ((armM l).bt),Xs ((armM l).bt),Xt ((armM l).bt),.d (.list (map lk ((armM l).links)))]),(28,.var 38 [.d (.list (map stD (m.drop (1+3*i))))]),(45,.row 41 1 0 (map rdcs (wyM l m i)) true)],fun i=>i≤wnM m,fun i=>wnM m - i,0,?_,Nat.zero_le _,fun i hs=> ?_⟩
 ·exact ωe
 have hwl:(map rdcs (wyM l m i)).length=i:=by rw [length_map,ZfH]
 refine⟨fun e2=> ?_,fun e2=> ?_⟩
 ·have f33:(i:Int)< IntKind.i64.wrap (2+(sv m (0) 3)):=of_decide_eq_true e2
  have hs3:=Zu m (1+3*i) (n:=9) ωd
  refine⟨int (sv m (1+3*i) 9), [D.list (map stD (m.drop ((1+3*i)+1)))],⟨⟨rfl,rfl⟩,ZM m (1+3*i) 9 hm ωd⟩,?_⟩
  have hs4:=Zu m (1+3*i+1) (n:=9) ωd
  refine⟨int (sv m (1+3*i+1) 9), [D.list (map stD (m.drop ((1+3*i+1)+1)))],⟨⟨rfl,rfl⟩,ZM m (1+3*i+1) 9 hm ωd⟩,?_⟩
  have hs5:=Zu m (1+3*i+2) (n:=9) ωd
  refine⟨int (sv m (1+3*i+2) 9), [D.list (map stD (m.drop ((1+3*i+2)+1)))],⟨⟨rfl,rfl⟩,ZM m (1+3*i+2) 9 hm ωd⟩,?_⟩
  refine use (Zp6 l hl (cT m i) (ZwX m i)) rfl ?_
  refine⟨⟨row1 rfl,(by show ((map rdcs (wyM l m i)).length+1)*24≤_;omega),(by show ((map rdcs (wyM l m i)).length+1)≤_;omega)⟩,?_⟩
  refine⟨ωr,?_⟩
  refine⟨i+1,ω,by simp only;omega,?_⟩
  constructor<;>(repeat' (first|(set_option maxHeartbeats 20000 in exact rfl)|exact True.intro|apply And.intro))
  all_goals first
   |exact ωb
   |(rw [Zp8,map_append];rfl)
   |exact ωb
   |exact ωa
 ·have f33:¬ ((i:Int)< IntKind.i64.wrap (2+(sv m (0) 3))):=of_decide_eq_false e2
  have hiw:i=wnM m:=by have:i≤wnM m:=hs;omega
  have hL:=ZuQ l m w (n:=i) ω ω
  have hce:=hL.1
  have gW:=hL.2.1
  have gC:=hL.2.2.1
  have gB:=hL.2.2.2.1
  have hb0:=hL.2.2.2.2.1
  have hb1:=hL.2.2.2.2.2.1
  have hml:=hL.2.2.2.2.2.2.1
  have ht2:=hL.2.2.2.2.2.2.2.1
  have ht1:=hL.2.2.2.2.2.2.2.2
  have hbl:(map rdcs (baM l m w i)).length=(baM l m w i).length:=length_map ..
  have hB1:=gB.1
  have hwy:=ZfH l m i
  have hp1:=ZnW (armM l) (wyM l m i)
  have hp2:=ZnW (armM l) (baM l m w i)
  have hp3:=hp1
  have hp4:=hp2
  rw [length_map] at hp3 hp4
  have hz1:=ZvC (Zbz l) gW
  have hz2:=ZvC (Zbz l) gB
  refine use (Zg7 w hw) rfl ?_
  have hct:=ZrJ (armM l) (cnL (wyM l m i)) (wlsV w (wcM w)) 2 (Zdf l) (ZiX gW) (ZuI w) ωd
  rw [ZbY,hce,show cutV (armM l) (cnL (wyM l m i)) (wlsV w (wcM w)) 2=cuM l m w i from rfl] at hct
  refine use hct rfl ?_
  refine⟨ωr,?_⟩
  have hpt:=ZrI (armM l) (cnL (cuM l m w i)) (Zdf l) (ZiX gC)
  rw [ZbY,Zes (Zbz l) gC,show spnV (armM l) (cnL (cuM l m w i))=baM l m w i from rfl] at hpt
  refine use hpt rfl ?_
  refine fork (fun e6=> ?_) (fun e6=> ?_)
  ·have f72:((map rdcs (baM l m w i)).length:Int)=0:=ZB e6
   exfalso
   omega
  ·have f72:¬ (((map rdcs (baM l m w i)).length:Int)=0):=ZC e6
   refine k_ix 0 [D.list (map rdc (rAtW (wyM l m i) 0))] ωf (Zf2 ω hb0) rfl ?_
   refine k_ix 0 [D.list (map rdc (rAtW (wyM l m i) 0))] ωf (Zf2 ω rfl) rfl ?_
   refine use (ZhC (rAtW (wyM l m i) 0) (Zo6 gW _)) rfl ?_
   refine k_ix ((baM l m w i).length - 1) [D.list (map rdc (rAtW (wyM l m i) ((wyM l m i).length - 1)))] ωf (Zf2 ω hb1) rfl ?_
   refine k_ix ((wyM l m i).length - 1) [D.list (map rdc (rAtW (wyM l m i) ((wyM l m i).length - 1)))] ωf (Zf2 ω rfl) rfl ?_
   refine use (ZhC (rAtW (wyM l m i) ((wyM l m i).length - 1)) (Zo6 gW _)) rfl ?_
   refine⟨ωr,?_⟩
   refine⟨fun e=>absurd e ωd,fun _=> ?_⟩
   have hme101:=Zk6 (armM l) (cnL (wyM l m i)) (Zdf l) (ZiX gW)
   rw [ZbY,(Zkj (Zbz l) gW).1,(Zkj (Zbz l) gW).2] at hme101
   refine use hme101 rfl ?_
   have hme107:=Zk6 (armM l) (cnL (baM l m w i)) (Zdf l) (ZiX gB)
   rw [ZbY,(Zkj (Zbz l) gB).1,(Zkj (Zbz l) gB).2] at hme107
   refine use hme107 rfl ?_
   have hpn113:=ZeN (armM l) (cnL (wyM l m i)) 0 (Zdf l) (ZiX gW) ωd
   have hpo113:=Zo5 (Zbz l) gW ht1
   rw [ZbY,hpo113.1,hpo113.2,show plnL (armM l) (cnL (wyM l m i)) 0 (cnL (wyM l m i)).length=plW (armM l) (wyM l m i) from rfl] at hpn113
   refine use hpn113 rfl ?_
   have hpn119:=ZeN (armM l) (cnL (baM l m w i)) 0 (Zdf l) (ZiX gB) ωd
   have hpo119:=Zo5 (Zbz l) gB (Int.le_trans ht2 ht1)
   rw [ZbY,hpo119.1,hpo119.2,show plnL (armM l) (cnL (baM l m w i)) 0 (cnL (baM l m w i)).length=plW (armM l) (baM l m w i) from rfl] at hpn119
   refine use hpn119 rfl ?_
   refine fork (fun e7=> ?_) (fun e7=> ?_)
   ·have f141:((map keyC (plW (armM l) (wyM l m i))).length:Int)=0:=ZB e7
    exfalso
    omega
   ·have f141:¬ (((map keyC (plW (armM l) (wyM l m i))).length:Int)=0):=ZC e7
    refine⟨fun e8=> ?_,fun e8=> ?_⟩
    ·have f145:((map keyC (plW (armM l) (baM l m w i))).length:Int)=0:=ZB e8
     exfalso
     omega
    ·have f145:¬ (((map keyC (plW (armM l) (baM l m w i))).length:Int)=0):=ZC e8
     refine Za9 (x:=cn (meW (armM l) (baM l m w i))) (y:=cn (meW (armM l) (wyM l m i))) ωz ωz fun n148 h148=> ?_
     simp only [cn_q] at h148
     refine fork (fun e9=> ?_) (fun e9=> ?_)
     ·have f150:(meW (armM l) (baM l m w i))≤(meW (armM l) (wyM l m i)):=(Zcm h148).1 (of_decide_eq_true e9)
      refine fork (fun e10=> ?_) (fun e10=> ?_)
      ·have f154:((map rdcs (baM l m w i)).length:Int)=1:=ZB e10
       refine⟨ωr,?_⟩
       refine Eq.trans (b:=bool true) ?_ rfl
       rfl
      ·have f154:¬ (((map rdcs (baM l m w i)).length:Int)=1):=ZC e10
       refine k_ix ((plW (armM l) (baM l m w i)).length - 1) [D.v (.int .i64 (tkS (armM l) (cnL (baM l m w i)) 0 ((baM l m w i).length - 1))),D.list (map rdc (rAtW (baM l m w i) ((baM l m w i).length - 1)))] ωf (by rw [hp4];exact Zse ω) rfl ?_
       refine k_ix ((plW (armM l) (wyM l m i)).length - 1) [D.v (.int .i64 (tkS (armM l) (cnL (wyM l m i)) 0 ((wyM l m i).length - 1))),D.list (map rdc (rAtW (wyM l m i) ((wyM l m i).length - 1)))] ωf (by rw [hp3];exact Zse ω) rfl ?_
       refine⟨ωr,?_⟩
       refine Eq.trans (b:=bool (decide (tkS (armM l) (cnL (baM l m w i)) 0 ((baM l m w i).length - 1)≤tkS (armM l) (cnL (wyM l m i)) 0 ((wyM l m i).length - 1)))) ?_ rfl
       rw [decide_eq_true ht2]
     ·have f150:¬ ((meW (armM l) (baM l m w i))≤(meW (armM l) (wyM l m i))):=fun hh=>of_decide_eq_false e9 ((Zcm h148).2 hh)
      exfalso
      exact f150 hml
end
open argopen
section
variable {K : AV → Prop}
theorem topShort_walk (v0:Value) (l:List Int) (v1:Value) (m:List Int) (v2:Value) (k:List Int) (N:Nat) (w:World) (_:1≤N) (_:N≤1048576)
  (h0:Den w (fun b=>b< w.heap.size) v0 (.list (l.map intD))) (l0:argopen.intsZ l N)
  (h1:Den w (fun b=>b< w.heap.size) v1 (.list (m.map intD))) (l1:argopen.intsZ m N)
  (h2:Den w (fun b=>b< w.heap.size) v2 (.list (k.map intD))) (l2:argopen.intsZ k N) (hT:Tab w):
  Calls Tryz.prog 3 #[v0,v1,v2] w fun e w'=>e= .returned (.bool true)∧Below w.heap.size w w':=
 ZeV (I:=fun b=>b< w.heap.size) (ZfM l l0.2 m l1.2 k l2.2) rfl hT (fun _ h=>h)
  (((Rel2.nil.cons (show DenAV _ _ _ _ v2 (.val (.one (.d (.list _)))) from h2)).cons (show DenAV _ _ _ _ v1 (.val (.one (.d (.list _)))) from h1)).cons (show DenAV _ _ _ _ v0 (.val (.one (.d (.list _)))) from h0))
end
