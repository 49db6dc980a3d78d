/- Joined by wip/bundle.py: XSamp0 XSampN XSampA. -/
import Derived.Test.YtgmkgfdjolchdaaGreatDoorQGrpO
import Derived.Test.YtgmkgfdjolchdaaGreatDoorQArmA
namespace Go.Proofs.YtgmkgfdjolchdaaGreatDoor.eng
open Go.RowKit num mem seg q held ratA ratB ratC ratD ratE vars ratF
theorem Za9 {q:Rat} (h1:q.num.natAbs≤1000000) (h2:q.den≤1000):smallP (cn q):=
 ⟨Zi3 q,by show nv (enc q.num.natAbs)≤_;rw [Zf];exact h1,by show nv (enc q.den)≤_;rw [Zf];exact h2⟩
def m1Q:Rat:=((-1:Int):Rat)
def m2Q:Rat:=((-2:Int):Rat)
def n1Q:Rat:=((1:Nat):Rat)
def n0Q:Rat:=((0:Nat):Rat)
def n2Q:Rat:=((2:Nat):Rat)
def q4Q:Rat:=((1:Int):Rat) / ((4:Int):Rat)
def q10Q:Rat:=((1:Int):Rat) / ((10:Int):Rat)
def sampS (n:Nat):List (RV×RV):= [(cn n0Q,cn m1Q),(cn (n:Rat),cn m1Q),(cn (n:Rat),cn n1Q),(cn n0Q,cn n1Q)]
def sampL (n:Nat):LinkV:=⟨cn (n:Rat),cn m2Q,cn n2Q,cn q4Q,cn q10Q,sampS n⟩
def sampA (l:List Nat):ArmV:=⟨⟨#[111,110,101]⟩,cn n0Q,cn n0Q,false,cn n0Q,l.map sampL⟩
theorem Za8 {n:Nat} (h:n< 256):smallP (cn (n:Rat)):=Za9 (by rw [Rat.num_natCast];omega) (by rw [Rat.den_natCast];omega)
theorem ZpI {n:Nat} (h1:1≤n):convE 8 (sampS n)=0:=by
 refine Za1.2 ⟨by show ¬ (8:Int)< ((4:Nat):Int);omega,by show ¬ (4:Nat)< 3;omega,?_⟩
 have hn:(0:Rat)< (n:Rat):=by
  have:((0:Nat):Rat)< (n:Rat):=Rat.natCast_lt_natCast.2 ω
  exact this
 have p0:pts (sampS n) 0=(n0Q,m1Q):=by rw [Zdg (p:=(cn n0Q,cn m1Q)) rfl,cn_q,cn_q]
 have p1:pts (sampS n) 1=((n:Rat),m1Q):=by rw [Zdg (p:=(cn (n:Rat),cn m1Q)) rfl,cn_q,cn_q]
 have p2:pts (sampS n) 2=((n:Rat),n1Q):=by rw [Zdg (p:=(cn (n:Rat),cn n1Q)) rfl,cn_q,cn_q]
 have p3:pts (sampS n) 3=(n0Q,n1Q):=by rw [Zdg (p:=(cn n0Q,cn n1Q)) rfl,cn_q,cn_q]
 have e0:n0Q=0:=rfl
 have e1:n1Q=1:=rfl
 have e2:m1Q=-1:=by decide+kernel
 intro i k hi h2 hk
 have hi:i< 4:=hi
 have hk:k< 4:=hk
 show 0< poly.ori (pts (sampS n) i) (pts (sampS n) ((i+1) % 4)) (pts (sampS n) ((i+k) % 4))
 rcases (show (i=0∨i=1∨i=2∨i=3) from by omega) with rfl|rfl|rfl|rfl<;>rcases (show (k=2∨k=3) from by omega) with rfl|rfl<;>
  simp only [Nat.reduceAdd,Nat.reduceMod,p0,p1,p2,p3,poly.ori,e0,e1,e2]<;>grind
theorem ZjE {n:Nat} (h1:1≤n) (h2:n< 256):linkE (sampL n)=0:=by
 have hn:(0:Rat)< (n:Rat):=by
  have:((0:Nat):Rat)< (n:Rat):=Rat.natCast_lt_natCast.2 ω
  exact this
 have s0:smallP (cn n0Q):=Za8 (n:=0) ω
 have s1:smallP (cn n1Q):=Za8 (n:=1) ω
 have s2:smallP (cn n2Q):=Za8 (n:=2) ω
 have s3:smallP (cn m1Q):=Za9 ωk ωk
 have s4:smallP (cn m2Q):=Za9 ωk ωk
 have s5:smallP (cn q4Q):=Za9 ωk ωk
 have s6:smallP (cn q10Q):=Za9 ωk ωk
 have sn:smallP (cn (n:Rat)):=Za8 h2
 have hb:¬ linkBad (sampL n):=by
  rintro(h|h|h|h|h|h|h|h|h)
  ·exact h sn
  ·exact h s4
  ·exact h s2
  ·exact h s5
  ·exact h s6
  ·rw [show (sampL n).len.q=(n:Rat) from cn_q _] at h;exact absurd hn (Rat.not_lt.2 h)
  ·rw [show (sampL n).high.q=n2Q from cn_q _,show (sampL n).low.q=m2Q from cn_q _] at h;exact absurd h ωk
  ·rw [show (sampL n).speed.q=q4Q from cn_q _] at h;exact absurd h ωk
  ·rw [show (sampL n).brake.q=q10Q from cn_q _] at h;exact absurd h ωk
 have hs:¬ shapeBad (sampL n):=by
  rintro⟨p,hp,h⟩
  apply h
  have hp:p∈sampS n:=hp
  simp only [sampS,List.mem_cons,List.not_mem_nil,or_false] at hp
  rcases hp with rfl|rfl|rfl|rfl
  ·exact⟨s0,s3⟩
  ·exact⟨sn,s3⟩
  ·exact⟨sn,s1⟩
  ·exact⟨s0,s1⟩
 unfold linkE
 rw [if_neg hb,if_pos (show convE 8 (sampL n).shape=0 from ZpI h1),if_neg hs]
theorem ZfJ {l:List Nat} (h0:l≠ []) (h3:l.length≤3) (h:∀ n,n∈l→1≤n∧n< 256):armE (sampA l)=0:=by
 have s0:smallP (cn n0Q):=Za8 (n:=0) ω
 have hl:(sampA l).links.length=l.length:=List.length_map ..
 have hb:¬ baseBad (sampA l):=by
  rintro(h|h|h|h|h)
  ·rw [hl] at h;exact h0 (List.eq_nil_of_length_eq_zero h)
  ·exact h s0
  ·exact h s0
  ·exact h s0
  ·exact Bool.noConfusion h.1
 unfold armE
 rw [if_pos (show nameOk (sampA l).name=true from(by decide+kernel:nameOk ⟨#[111,110,101]⟩=true)),if_neg (by rw [hl];omega),if_neg hb]
 refine Zf2 fun j m hm=> ?_
 obtain⟨n,hn,rfl⟩:=List.mem_map.1 (List.mem_of_getElem? hm)
 exact ZjE (h n hn).1 (h n hn).2
theorem ZmS {l:List Nat} (h0:l≠ []) (h3:l.length≤3) (h:∀ n,n∈l→1≤n∧n< 256) {k:Int} (hk:k=(l.length:Int)):hasE (sampA l) k=0:=
 Zaa.2 ⟨ZfJ h0 h3 h,by rw [hk];show (l.length:Int)=((l.map sampL).length:Int);rw [List.length_map]⟩
theorem ZD {x:RV} (h:smallP x):x.z≤3:=by
 have len:∀ (s:ByteArray) (m j:Nat),enc (nv s)=s→nv s≤m→m< 256 ^ j→s.size≤j:=by
  intro s m j h1 h2 h3
  rw [← h1]
  exact Zk.2 ω
 have h1:=len x.a 1000000 3 h.1.1 h.2.1 ωd
 have h2:=len x.d 1000 2 h.1.2.1 h.2.2 ωd
 unfold RV.z
 omega
theorem ZR {A:ArmV} (hA:armE A=0) {l:LinkV} (hl:l∈A.links):smallP l.len∧smallP l.low∧smallP l.high∧smallP l.speed∧smallP l.brake∧0< l.len.q∧l.low.q< l.high.q∧0< l.speed.q∧0< l.brake.q∧convE 8 l.shape=0∧∀ p,p∈l.shape→smallP p.1∧smallP p.2:=by
 obtain⟨_,_,_,_,_,_,h⟩:=ZaF hA
 obtain⟨h1,h2,h3⟩:=Zj6 (h l hl)
 simp only [linkBad,not_or,Classical.not_not] at h1
 obtain⟨a1,a2,a3,a4,a5,a6,a7,a8,a9⟩:=h1
 exact⟨a1,a2,a3,a4,a5,Rat.not_le.1 a6,Rat.not_le.1 a7,Rat.not_le.1 a8,Rat.not_le.1 a9,h2,fun p hp=>Classical.byContradiction fun e=>h3 ⟨p,hp,e⟩⟩
theorem ZpJ {l:List Nat} (h3:l.length≤3) (h:∀ n,n∈l→1≤n∧n< 256):(sampA l).zs 1000:=by
 have up:∀ {x:RV},smallP x→x.z≤1000:=fun h=>Nat.le_trans (ZD h) ωd
 have s0:smallP (cn n0Q):=Za8 (n:=0) ω
 refine⟨by show (3:Nat)≤1000;omega,up s0,up s0,up s0,by show (l.map sampL).length≤1000;rw [List.length_map];omega,fun m hm=> ?_⟩
 obtain⟨n,hn,rfl⟩:=List.mem_map.1 hm
 obtain⟨h1,h2⟩:=h n hn
 obtain⟨k1,k2,k3⟩:=Zj6 (ZjE h1 h2)
 simp only [linkBad,not_or,Classical.not_not] at k1
 obtain⟨a1,a2,a3,a4,a5,_⟩:=k1
 exact⟨up a1,up a2,up a3,up a4,up a5,by show (4:Nat)≤1000;omega,fun p hp=>by
  have:=Classical.byContradiction fun e=>k3 ⟨p,hp,e⟩
  exact⟨up this.1,up this.2⟩⟩
open Go.RowKit num mem seg q held ratA ratB ratC ratD ratE vars ratF natC natD natI sub32
section
variable {K : AV → Prop} {T : TypeId} {ox oy : Operand}
end
section
variable {K : AV → Prop}
theorem Zqg {A:ArmV} {B:Nat} (h:A.zs B) (hB:B≤67108864):A.ok:=by
 obtain⟨h1,h2,h3,h4,h5,h6⟩:=h
 refine⟨ω,ω,ω,ω,ω,fun l hl=> ?_⟩
 obtain⟨a1,a2,a3,a4,a5,a6,a7⟩:=h6 l hl
 exact⟨ω,ω,ω,ω,ω,ω,fun p hp=>by have:=a7 p hp;omega⟩
end
