/- Joined by wip/bundle.py: XLawTck XLawTat. -/
import Derived.Test.YtbgokkfhohodgaaGreatDoorGrp3
import Derived.Test.YtbgokkfhohodgaaGreatDoorGrpX
import Derived.Test.YtbgokkfhohodgaaGreatDoorOpenA
import Derived.Test.YtbgokkfhohodgaaGreatDoorGrp2
set_option maxRecDepth 100000
namespace Go.Proofs.YtbgokkfhohodgaaGreatDoor.eng
open Go.RowKit num mem seg q held ratA ratB ratC ratD ratE vars ratF argopen
section
variable {K : AV → Prop}
def q2Q:Rat:=((1:Int):Rat) / ((2:Int):Rat)
theorem Znf:cn q2Q=⟨false,enc 1,enc 2⟩:=by
 unfold cn
 rw [show q2Q.num=1 by decide+kernel,show q2Q.den=2 by decide+kernel]
 rfl
theorem Zm3:Spec Tryz.prog Tab 48 [int 1,int 2] (rat (cn q2Q)):=Zdr (ZcJ 2 q2Q (by decide) (by decide) Znf)
theorem ZmY {t:List (Int×List RV)} {N:Nat} (h:trackZ t N) (hN:N≤1048576):tz t:=⟨Nat.le_trans h.1 hN,fun k hk=>⟨(h.2 k hk).1,Nat.le_trans (h.2 k hk).2.1 hN,fun x hx=>Nat.le_trans ((h.2 k hk).2.2 x hx) (by omega)⟩⟩
def keyedL:List (Int×List RV):= [(10,natRV [0]),(20,natRV [1])]
theorem Zkm:tz keyedL:=by
 refine⟨by decide,fun k hk=> ?_⟩
 have h:k=(10,natRV [0])∨k=(20,natRV [1]):=by simpa [keyedL] using hk
 rcases h with rfl|rfl
 ·exact⟨by decide,by decide,fun x hx=>Nat.le_trans (Zix (by decide) x hx) (by decide)⟩
 ·exact⟨by decide,by decide,fun x hx=>Nat.le_trans (Zix (by decide) x hx) (by decide)⟩
theorem ZlO:tz []:=⟨by decide,fun k hk=>by simp at hk⟩
theorem Zhd  :Spec Tryz.prog Tab 58 [] (.val (.one (.d (.list (List.map keyD keyedL))))):=by
 refine Ze Tryz.func58 rfl rfl Tryz.ntmps58 rfl (by kernel_rfl) rfl rfl ?_
 refine ZiO [0] rfl (by decide) (by decide) ?_
 refine ZiO [1] rfl (by decide) (by decide) ?_
 refine Eq.trans (b:= .val (.one (.d (.list ([[D.v (.int .i64 (10)),D.list (List.map rd (natRV [0]))], [D.v (.int .i64 (20)),D.list (List.map rd (natRV [1]))]]))))) ?_ rfl
 rfl
theorem Zlv (k:K (.val (.one (.d (.list (List.map keyD keyedL)))))):Ask 58 [] K:=use Zhd rfl k
theorem at15:atL keyedL 15= [q2Q]:=by
 show itL _ _ _ _=_
 show [itF _ (natRV [0]) (natRV [1]) 0]=_
 unfold itF
 rw [show qAt (natRV [0]) 0=((0:Nat):Rat) from(Zdo rfl).trans (cn_q _),show qAt (natRV [1]) 0=((1:Nat):Rat) from(Zdo rfl).trans (cn_q _)]
 decide+kernel
set_option maxHeartbeats 4000000 in
theorem Ze4  :Spec Tryz.prog Tab 12 [] (bool true):=by
 have o3:(sampA [3]).ok:=Zj7 (ZjP (by decide) (by decide)) (by decide)
 have a3:armE (sampA [3])=0:=ZjQ (by decide) (by decide) (by decide)
 refine Ze Tryz.func12 rfl rfl Tryz.ntmps12 rfl (by kernel_rfl) rfl rfl ?_
 refine Zlv ?_
 refine Zmv (t:=keyedL) 15 rfl Zkm (by decide) ?_
 refine use (Zm3) rfl ?_
 refine Zgl (l:=atL keyedL 15) (m:= [q2Q]) at15 rfl rfl (by rw [at15];decide) ?_
 refine Zkr [3] rfl (by decide) (by decide) ?_
 refine Zkw (A:=(sampA [3])) (t:= []) (by assumption) ZlO fun n9 hk_9_1=> ?_
 refine Eq.trans (b:=bool (n9==14)) ?_ rfl
 rw [show n9=14 from by rw [hk_9_1];exact Zc9 a3 rfl];rfl
theorem Zko (k:K (bool true)):Ask 12 [] K:=use Ze4 rfl k
end
end Go.Proofs.YtbgokkfhohodgaaGreatDoor.eng
namespace Go.Proofs.YtbgokkfhohodgaaGreatDoor.eng
open Go.RowKit num mem seg q held ratA ratB ratC ratD ratE vars ratF argopen
section
variable {K : AV → Prop}
theorem Znc {s:Rat} {a b:List RV} {B C:Nat} (hs:qs s≤C) (ha:∀ x,x∈a→x.z≤B) (hb:∀ x,x∈b→x.z≤B) (i:Nat):qs (itF s a b i)≤3*B+C+5:=by
 have q:∀ l:List RV,(∀ x,x∈l→x.z≤B)→qs (qAt l i)≤B+1:=fun l hl=>by
  unfold qAt
  cases h:l[i]? with
  |none=>exact Nat.le_trans (by decide+kernel:qs z0.q≤1) (by omega)
  |some x=>have:=x.z1;have:=hl x (List.mem_of_getElem? h);show qs x.q≤_;omega
 have:=q a ha
 have:=q b hb
 have:=Zb6 (qAt b i) (qAt a i)
 have:=Zdn s (qAt b i - qAt a i)
 have:=Zgc (qAt a i) (s*(qAt b i - qAt a i))
 unfold itF;omega
theorem s_z {n x y:Int} (hn:-9223372036854775808≤n∧n≤9223372036854775807) (hx:-9223372036854775808≤x∧x≤9223372036854775807) (hy:-9223372036854775808≤y∧y≤9223372036854775807):qs (((n:Rat) - (x:Rat)) / ((y:Rat) - (x:Rat)))≤40:=by
 have:=Zeu hn.1 hn.2
 have:=Zeu hx.1 hx.2
 have:=Zeu hy.1 hy.2
 have:=Zb6 (n:Rat) (x:Rat)
 have:=Zb6 (y:Rat) (x:Rat)
 have:=Zih ((n:Rat) - (x:Rat)) ((y:Rat) - (x:Rat))
 omega
theorem ZmO {n:Int} (hn:-9223372036854775808≤n∧n≤9223372036854775807):∀ (r:List (Int×List RV)) (x:Int×List RV),tz (x :: r)→(∀ q,q∈atR x r n→qs q≤4194304)∧(atR x r n).length≤1048576
 | [],x,h=>by
  obtain⟨_,h2,h3⟩:=h.2 x (by simp)
  refine⟨fun q hq=> ?_,by show (qsL x.2).length≤_;rw [ZdR];exact h2⟩
  obtain⟨y,hy,rfl⟩:=List.mem_map.1 (show q∈List.map RV.q x.2 from hq)
  have:=y.z1;have:=h3 y hy;omega
 |y :: r,x,h=>by
  obtain⟨h1,h2,h3⟩:=h.2 x (by simp)
  obtain⟨g1,g2,g3⟩:=h.2 y (by simp)
  unfold atR
  split
  ·refine⟨fun q hq=> ?_,by rw [ZfD];omega⟩
   obtain⟨i,_,rfl⟩:=List.mem_map.1 (show q∈List.map _ _ from hq)
   have:=Znc (s_z hn h1 g1) h3 g3 i;omega
  ·exact ZmO hn r y ⟨by have:=h.1;simp only [List.length_cons] at this ⊢;omega,fun k hk=>h.2 k (List.mem_cons_of_mem _ hk)⟩
theorem ZlJ {t:List (Int×List RV)} {n:Int} (ht:tz t) (hn:-9223372036854775808≤n∧n≤9223372036854775807):(∀ q,q∈atL t n→qs q≤4194304)∧(atL t n).length≤1048576:=by
 cases t with
 |nil=>exact⟨fun q hq=>by simp [atL] at hq,by simp [atL]⟩
 |cons x r=>
  show (∀ q,q∈(if n≤x.1 then qsL x.2 else atR x r n)→qs q≤4194304)∧(if n≤x.1 then qsL x.2 else atR x r n).length≤1048576
  split
  ·obtain⟨_,h2,h3⟩:=ht.2 x (by simp)
   refine⟨fun q hq=> ?_,by rw [ZdR];exact h2⟩
   obtain⟨y,hy,rfl⟩:=List.mem_map.1 (show q∈List.map RV.q x.2 from hq)
   have:=y.z1;have:=h3 y hy;omega
  ·exact ZmO hn r x ht
end
end Go.Proofs.YtbgokkfhohodgaaGreatDoor.eng
