/- Joined by wip/bundle.py: XRoa0 XOpenI XSwt0 XSwtA XTcl0 XTcl1 XFrac XTop0 XTopA XTopB XTcl2 XTopC XTopD XCelA XCelB XShr0 XCelC XCelD XCelE XTcl3 XTcl4 XLawTcl. -/
import Derived.Test.YtiekmbmgpachpaaGreatDoorSayA
import Derived.Test.YtiekmbmgpachpaaGreatDoorGrpGr
import Derived.Test.YtiekmbmgpachpaaGreatDoorGrpL
import Derived.Test.YtiekmbmgpachpaaGreatDoorOpenA
import Derived.Test.YtiekmbmgpachpaaGreatDoorGrpR
import Derived.Test.YtiekmbmgpachpaaGreatDoorGrpS
import Derived.Test.YtiekmbmgpachpaaGreatDoorGrpY
import Derived.Test.YtiekmbmgpachpaaGreatDoorWg
import Derived.Test.YtiekmbmgpachpaaGreatDoorPrf0
import Derived.Test.YtiekmbmgpachpaaGreatDoorGrpM
import Derived.Test.YtiekmbmgpachpaaGreatDoorEngR
import Derived.Test.YtiekmbmgpachpaaGreatDoorGrpO
import Derived.Test.YtiekmbmgpachpaaGreatDoorGrpT
import Derived.Test.YtiekmbmgpachpaaGreatDoorGrpc
import Derived.Test.YtiekmbmgpachpaaGreatDoorGrpSt
import Derived.Test.YtiekmbmgpachpaaGreatDoorGrpDr
import Derived.Test.YtiekmbmgpachpaaGreatDoorSortC
import Derived.Test.YtiekmbmgpachpaaGreatDoorGrpN
set_option maxRecDepth 100000
namespace Go.Proofs.YtiekmbmgpachpaaGreatDoor.eng
open Go.RowKit num mem seg q held ratA ratB ratC ratD ratE vars ratF trq
def intD (n:Int):List D:= [.v (.int .i64 n)]
section
variable {d : Nat → Rat}
end
end Go.Proofs.YtiekmbmgpachpaaGreatDoor.eng
namespace Go.Proofs.YtiekmbmgpachpaaGreatDoor.argopen
open Go.RowKit Go.ChangeShapes Go.WideShapes Go.ChangeAt num mem seg q eng
variable {H : Type} {enc : TypeId × Value → H} {w : World} {base : Nat} {sp : Nat → Bool} {held : Bool} {I : Nat → Prop}
def Rint (x:Int) (d:DataW H):Prop:=1≤Rows.uptoBulk d∧-9223372036854775808≤x∧x≤9223372036854775807
theorem ZjW {fuel:Nat} {cs:List Value} {x:DataW H×List MemPlace} (h:DataW.trod enc Tryz.prog w base sp held fuel 3 cs=some x):∃ a:Int,Rint a x.1∧Cells w I cs (eng.intD a):=by
 obtain⟨k,rfl,rfl,hw⟩:=DataW.trod_int Tryz.underlying3 h
 have:-9223372036854775808≤k∧k≤9223372036854775807:=by have:=hw;simp [Lit.wf,IntKind.min,IntKind.max,IntKind.signed,IntKind.bits] at this;omega
 exact⟨k,⟨by simp only [Rows.uptoBulk];omega,this⟩,Cells.nil.cons (Den.v _ rfl)⟩
def intsZ (l:List Int) (B:Nat):Prop:=l.length≤B∧∀ x,x∈l→-9223372036854775808≤x∧x≤9223372036854775807
theorem ZoC {l:List Int} {B C:Nat} (h:intsZ l B) (hB:B≤C):intsZ l C:=⟨Nat.le_trans h.1 hB,h.2⟩
theorem ZkU {r:Reach} {b0:Nat} {v:Value} {d:DataW H} {ps:List MemPlace} (hval:Value.okWide Tryz.prog w r b0 22 v) (hd:DataW.Trod enc Tryz.prog w base sp held 22 v d ps) (hI:∀ b,b< w.heap.size→I b):
  ∃ l:List Int,Den w I v (.list (l.map eng.intD))∧intsZ l (Rows.uptoBulk d):=by
 obtain⟨av,len,cap,rfl⟩:=okWide_slice Tryz.underlying22 hval
 obtain⟨fuel,hf⟩:=hd
 obtain⟨v,l,ds,g2,hdl,hr,hx⟩:=ZiY (R:=Rint) eng.intD (by decide) (fun _=>rfl) Tryz.underlying22 (by kernel_rfl) (fun fuel cs x h=>ZjW h) hI hf
 obtain⟨h1,h2,h3⟩:=ZjH (d:=d) hr hx fun a x h=>h.1
 obtain rfl:=(List.cons.inj g2).1
 exact⟨l,hdl,by omega,fun k hk=>by obtain⟨x,⟨_,a⟩,g⟩:=h3 k hk;exact a⟩
end Go.Proofs.YtiekmbmgpachpaaGreatDoor.argopen
namespace Go.Proofs.YtiekmbmgpachpaaGreatDoor.eng
open Go.RowKit num mem seg q held ratA ratB ratC ratD ratE vars ratF trq
section
variable {K : AV → Prop}
theorem Zib {p q r u:Rat} (h1:sle p q) (h2:sle r u) (hp:qs p≤268435456) (hq:qs q≤268435456) (hr:qs r≤268435456) (hu:qs u≤268435456) (k:∀ ya yb,ya=mulLo p q r u→yb=mulHi p q r u→sle ya yb→qs ya≤qs p+qs q+qs r+qs u+20→qs yb≤qs p+qs q+qs r+qs u+20→K (pair (cn ya) (cn yb))):Ask 50 [pair (cn p) (cn q),pair (cn r) (cn u)] K:=by
 refine ZqS (by rw [cn_z];omega) (by rw [cn_z];omega) (by rw [cn_z];omega) (by rw [cn_z];omega) fun ya yb ha hb z1 z2=> ?_
 simp only [ZA h1,ZB h1,ZA h2,ZB h2] at ha hb
 simp only [cn_z] at z1 z2
 exact k ya yb ha hb (by rw [ha,hb];exact Rat.le_trans (ZbE Rat.le_refl h1 Rat.le_refl h2).1 (ZbE Rat.le_refl h1 Rat.le_refl h2).2) (by omega) (by omega)
theorem ZqM {p q r u:Rat} (h1:sle p q) (h2:sle r u) (hp:qs p≤268435456) (hq:qs q≤268435456) (hr:qs r≤268435456) (hu:qs u≤268435456) (k:∀ ya yb,ya=p+r→yb=q+u→sle ya yb→qs ya≤qs p+qs q+qs r+qs u+20→qs yb≤qs p+qs q+qs r+qs u+20→K (pair (cn ya) (cn yb))):Ask 51 [pair (cn p) (cn q),pair (cn r) (cn u)] K:=by
 refine ZqT (by rw [cn_z];omega) (by rw [cn_z];omega) (by rw [cn_z];omega) (by rw [cn_z];omega) fun ya yb ha hb z1 z2=> ?_
 simp only [ZA h1,ZB h1,ZA h2,ZB h2] at ha hb
 simp only [cn_z] at z1 z2
 exact k ya yb ha hb (by rw [ha,hb];unfold sle at*;grind) (by omega) (by omega)
theorem ZqJ {p q r u:Rat} (h1:sle p q) (h2:sle r u) (hp:qs p≤268435456) (hq:qs q≤268435456) (hr:qs r≤268435456) (hu:qs u≤268435456) (k:∀ ya yb,ya=p - u→yb=q - r→sle ya yb→qs ya≤qs p+qs q+qs r+qs u+20→qs yb≤qs p+qs q+qs r+qs u+20→K (pair (cn ya) (cn yb))):Ask 49 [pair (cn p) (cn q),pair (cn r) (cn u)] K:=by
 refine ZqQ (by rw [cn_z];omega) (by rw [cn_z];omega) (by rw [cn_z];omega) (by rw [cn_z];omega) fun ya yb ha hb z1 z2=> ?_
 simp only [ZA h1,ZB h1,ZA h2,ZB h2] at ha hb
 simp only [cn_z] at z1 z2
 exact k ya yb ha hb (by rw [ha,hb];unfold sle at*;grind) (by omega) (by omega)
theorem ZqL {x y:RV} (hx:x.z≤3145760) (hy:y.z≤3145760) (k:∀ ya yb,ya=(cs3 (slo x y) (shi x y)).1→yb=(cs3 (slo x y) (shi x y)).2→sle ya yb→qs ya≤4*(x.z+y.z+8)+34→qs yb≤4*(x.z+y.z+8)+34→K (pair (cn ya) (cn yb))):Ask 47 [pair x y] K:=by
 refine Zlo (by omega) (by omega) fun ya yb ha hb=> ?_
 have hz1:=Za8 x y
 have hz2:=Za9 x y
 rw [cn_z] at hz1 hz2
 obtain⟨z1,z2⟩:=Zrr (l:=slo x y) (h:=shi x y) (B:=x.z+y.z+8) (by omega) (by omega) (by omega)
 have e:=ZlY (Zft x y)
 have ha:ya=(cs3 (slo x y) (shi x y)).1:=by rw [← e];exact ha
 have hb:yb=(cs3 (slo x y) (shi x y)).2:=by rw [← e];exact hb
 have hle:sle (cs3 (slo x y) (shi x y)).1 (cs3 (slo x y) (shi x y)).2:=Rat.le_trans (ZcK _ _).1 (ZcK _ _).2
 exact k ya yb ha hb (by rw [ha,hb];exact hle) (by rw [ha];exact z1) (by rw [hb];exact z2)
theorem ZqK {x y:RV} (hx:x.z≤3145760) (hy:y.z≤3145760) (k:∀ ya yb,ya=(sn3 (slo x y) (shi x y)).1→yb=(sn3 (slo x y) (shi x y)).2→sle ya yb→qs ya≤4*(x.z+y.z+8)+34→qs yb≤4*(x.z+y.z+8)+34→K (pair (cn ya) (cn yb))):Ask 48 [pair x y] K:=by
 refine Zll (by omega) (by omega) fun ya yb ha hb=> ?_
 have hz1:=Za8 x y
 have hz2:=Za9 x y
 rw [cn_z] at hz1 hz2
 obtain⟨z1,z2⟩:=Zqi (l:=slo x y) (h:=shi x y) (B:=x.z+y.z+8) (by omega) (by omega) (by omega)
 have e:=ZoX (Zft x y)
 rw [e] at ha hb
 have hle:sle (sn3 (slo x y) (shi x y)).1 (sn3 (slo x y) (shi x y)).2:=Rat.le_trans (ZcH _ _).1 (ZcH _ _).2
 exact k ya yb ha hb (by rw [ha,hb];exact hle) (by rw [ha];exact z1) (by rw [hb];exact z2)
end
end Go.Proofs.YtiekmbmgpachpaaGreatDoor.eng
namespace Go.Proofs.YtiekmbmgpachpaaGreatDoor.eng
open Go.RowKit num mem seg q held ratA ratB ratC ratD ratE vars ratF trq prf
section
variable {K : AV → Prop}
def csT (x y:RV):Rat×Rat:=cs3 (slo x y) (shi x y)
def snT (x y:RV):Rat×Rat:=sn3 (slo x y) (shi x y)
def uAt (c s:Rat×Rat) (p:RV×RV):Rat×Rat:=(mulLo p.1.q p.1.q c.1 c.2 - mulHi p.2.q p.2.q s.1 s.2,mulHi p.1.q p.1.q c.1 c.2 - mulLo p.2.q p.2.q s.1 s.2)
def vAt (c s:Rat×Rat) (p:RV×RV):Rat×Rat:=(mulLo p.1.q p.1.q s.1 s.2+mulLo p.2.q p.2.q c.1 c.2,mulHi p.1.q p.1.q s.1 s.2+mulHi p.2.q p.2.q c.1 c.2)
theorem ZcJ {a r u:Rat} (h:sle r u):mulLo a a r u≤mulHi a a r u:=Rat.le_trans (ZbE Rat.le_refl Rat.le_refl Rat.le_refl h).1 (ZbE Rat.le_refl Rat.le_refl Rat.le_refl h).2
theorem ZnW {c s:Rat×Rat} (hc:sle c.1 c.2) (hs:sle s.1 s.2) (p:RV×RV):sle (uAt c s p).1 (uAt c s p).2:=by
 have h1:=ZcJ (a:=p.1.q) hc
 have h2:=ZcJ (a:=p.2.q) hs
 unfold sle uAt;simp only;grind
theorem ZnU {c s:Rat×Rat} (hc:sle c.1 c.2) (hs:sle s.1 s.2) (p:RV×RV):sle (vAt c s p).1 (vAt c s p).2:=by
 have h1:=ZcJ (a:=p.1.q) hs
 have h2:=ZcJ (a:=p.2.q) hc
 unfold sle vAt;simp only;grind
theorem ZrG {c s:Rat×Rat} {B C:Nat} (h1:qs c.1≤C) (h2:qs c.2≤C) (h3:qs s.1≤C) (h4:qs s.2≤C) {p:RV×RV} (h5:p.1.z+1≤B) (h6:p.2.z+1≤B):qs (uAt c s p).1≤2*(B+C)+3∧qs (uAt c s p).2≤2*(B+C)+3:=by
 have hx:=p.1.z1;have hy:=p.2.z1
 obtain⟨a1,a2⟩:=Zh1 (a:=p.1.q) (b:=p.1.q) (c:=c.1) (d:=c.2) (B:=B) (C:=C) (by omega) (by omega) h1 h2
 obtain⟨b1,b2⟩:=Zh1 (a:=p.2.q) (b:=p.2.q) (c:=s.1) (d:=s.2) (B:=B) (C:=C) (by omega) (by omega) h3 h4
 have k1:=Zas (mulLo p.1.q p.1.q c.1 c.2) (mulHi p.2.q p.2.q s.1 s.2)
 have k2:=Zas (mulHi p.1.q p.1.q c.1 c.2) (mulLo p.2.q p.2.q s.1 s.2)
 unfold uAt;exact⟨by simp only;omega,by simp only;omega⟩
theorem ZrD {c s:Rat×Rat} {B C:Nat} (h1:qs c.1≤C) (h2:qs c.2≤C) (h3:qs s.1≤C) (h4:qs s.2≤C) {p:RV×RV} (h5:p.1.z+1≤B) (h6:p.2.z+1≤B):qs (vAt c s p).1≤2*(B+C)+3∧qs (vAt c s p).2≤2*(B+C)+3:=by
 have hx:=p.1.z1;have hy:=p.2.z1
 obtain⟨a1,a2⟩:=Zh1 (a:=p.1.q) (b:=p.1.q) (c:=s.1) (d:=s.2) (B:=B) (C:=C) (by omega) (by omega) h3 h4
 obtain⟨b1,b2⟩:=Zh1 (a:=p.2.q) (b:=p.2.q) (c:=c.1) (d:=c.2) (B:=B) (C:=C) (by omega) (by omega) h1 h2
 have k1:=ZU (mulLo p.1.q p.1.q s.1 s.2) (mulLo p.2.q p.2.q c.1 c.2)
 have k2:=ZU (mulHi p.1.q p.1.q s.1 s.2) (mulHi p.2.q p.2.q c.1 c.2)
 unfold vAt;exact⟨by simp only;omega,by simp only;omega⟩
def sjn (f:Nat→Rat×Rat):Nat→Rat×Rat
 |0=>f 0
 |i+1=>(minQ (sjn f i).1 (f i).1,maxQ (sjn f i).2 (f i).2)
def jR (f:Nat→Rat×Rat):Nat→RV×RV
 |0=>(z0,z0)
 |i+1=>(cn (sjn f (i+1)).1,cn (sjn f (i+1)).2)
theorem Zdd {f:Nat→Rat×Rat} (hf:∀ i,sle (f i).1 (f i).2):∀ i,sle (sjn f i).1 (sjn f i).2
 |0=>hf 0
 |i+1=>by have h1:=Zdd hf i;have h2:=hf i;unfold sjn sle minQ maxQ at*;grind
theorem ZmA {f:Nat→Rat×Rat} {B:Nat} (hf:∀ i,qs (f i).1≤B∧qs (f i).2≤B):∀ i,qs (sjn f i).1≤B∧qs (sjn f i).2≤B
 |0=>hf 0
 |i+1=>by
  have h1:=ZmA hf i;have h2:=hf i
  unfold sjn minQ maxQ
  constructor<;>(simp only;split)<;>omega
theorem Zdt (a:Rat):minQ a a=a:=by unfold minQ;split<;>rfl
theorem Zdu (a:Rat):maxQ a a=a:=by unfold maxQ;split<;>rfl
theorem Zki (f:Nat→Rat×Rat):sjn f 1=f 0:=by unfold sjn;exact Prod.ext (Zdt _) (Zdu _)
theorem Zns (f:Nat→Rat×Rat) {i:Nat} (h:0< i):jR f i=(cn (sjn f i).1,cn (sjn f i).2):=by
 obtain⟨m,rfl⟩:∃ m,i=m+1:=⟨i - 1,by omega⟩
 rfl
theorem jR_z {f:Nat→Rat×Rat} {B:Nat} (hf:∀ i,qs (f i).1≤B∧qs (f i).2≤B) (i:Nat):(jR f i).1.z≤B∧(jR f i).2.z≤B:=by
 cases i with
 |zero=>exact⟨by show z0.z≤B;rw [z0z];omega,by show z0.z≤B;rw [z0z];omega⟩
 |succ i=>have:=ZmA hf (i+1);exact⟨by show (cn _).z≤B;rw [cn_z];exact this.1,by show (cn _).z≤B;rw [cn_z];exact this.2⟩
def ptAt (l:List (RV×RV)) (i:Nat):RV×RV:=(l[i]?).getD (z0,z0)
theorem Zo8 {l:List (RV×RV)} {i:Nat} {p:RV×RV} (h:l[i]? =some p):ptAt l i=p:=by simp [ptAt,h]
theorem Zn8 {l:List (RV×RV)} {B:Nat} (hl:∀ p,p∈l→p.1.z≤B∧p.2.z≤B) (i:Nat):(ptAt l i).1.z≤B∧(ptAt l i).2.z≤B:=by
 unfold ptAt
 cases h:l[i]? with
 |none=>exact⟨by show z0.z≤B;rw [z0z];omega,by show z0.z≤B;rw [z0z];omega⟩
 |some p=>exact hl p (List.mem_of_getElem? h)
def uF (l:List (RV×RV)) (x y:RV) (i:Nat):Rat×Rat:=uAt (csT x y) (snT x y) (ptAt l i)
def vF (l:List (RV×RV)) (x y:RV) (i:Nat):Rat×Rat:=vAt (csT x y) (snT x y) (ptAt l i)
theorem ZiF (x y:RV):sle (csT x y).1 (csT x y).2:=Rat.le_trans (ZcK _ _).1 (ZcK _ _).2
theorem ZhF (x y:RV):sle (snT x y).1 (snT x y).2:=Rat.le_trans (ZcH _ _).1 (ZcH _ _).2
theorem Zp8 {x y:RV} (hx:x.z≤1048576) (hy:y.z≤1048576):(qs (csT x y).1≤16777216∧qs (csT x y).2≤16777216)∧qs (snT x y).1≤16777216∧qs (snT x y).2≤16777216:=by
 have hz1:=Za8 x y
 have hz2:=Za9 x y
 rw [cn_z] at hz1 hz2
 obtain⟨z1,z2⟩:=Zrr (l:=slo x y) (h:=shi x y) (B:=x.z+y.z+8) (by omega) (by omega) (by omega)
 obtain⟨z3,z4⟩:=Zqi (l:=slo x y) (h:=shi x y) (B:=x.z+y.z+8) (by omega) (by omega) (by omega)
 exact⟨⟨Nat.le_trans z1 (by omega),Nat.le_trans z2 (by omega)⟩,Nat.le_trans z3 (by omega),Nat.le_trans z4 (by omega)⟩
theorem uF_z {l:List (RV×RV)} {x y:RV} (hl:∀ p,p∈l→p.1.z≤1048576∧p.2.z≤1048576) (hx:x.z≤1048576) (hy:y.z≤1048576) (i:Nat):qs (uF l x y i).1≤67108864∧qs (uF l x y i).2≤67108864:=by
 obtain⟨⟨h1,h2⟩,h3,h4⟩:=Zp8 hx hy
 obtain⟨h5,h6⟩:=Zn8 hl i
 obtain⟨a1,a2⟩:=ZrG h1 h2 h3 h4 (p:=ptAt l i) (B:=1048577) (by omega) (by omega)
 exact⟨Nat.le_trans a1 (by decide),Nat.le_trans a2 (by decide)⟩
theorem vF_z {l:List (RV×RV)} {x y:RV} (hl:∀ p,p∈l→p.1.z≤1048576∧p.2.z≤1048576) (hx:x.z≤1048576) (hy:y.z≤1048576) (i:Nat):qs (vF l x y i).1≤67108864∧qs (vF l x y i).2≤67108864:=by
 obtain⟨⟨h1,h2⟩,h3,h4⟩:=Zp8 hx hy
 obtain⟨h5,h6⟩:=Zn8 hl i
 obtain⟨a1,a2⟩:=ZrD h1 h2 h3 h4 (p:=ptAt l i) (B:=1048577) (by omega) (by omega)
 exact⟨Nat.le_trans a1 (by decide),Nat.le_trans a2 (by decide)⟩
noncomputable def tBx (l:List (RV×RV)) (x y:RV):(RV×RV)×(RV×RV):=if convE 64 l=0 then (jR (uF l x y) l.length,jR (vF l x y) l.length) else ((z0,z0),(z0,z0))
set_option maxHeartbeats 2000000 in
theorem Zhn (l:List (RV×RV)) (x y:RV) (hl:∀ p,p∈l→p.1.z≤1048576∧p.2.z≤1048576) (hn:l.length≤1048576) (hx:x.z≤1048576) (hy:y.z≤1048576):Spec Tryz.prog Tab 13 [.val (.one (.d (.list (List.map rdv l)))),pair x y] (.tup [.agg [.d (.v (.bool ((tBx l x y).1.1).s)),.d (.v (.string ((tBx l x y).1.1).a)),.d (.v (.string ((tBx l x y).1.1).d)),.d (.v (.bool ((tBx l x y).2.1).s)),.d (.v (.string ((tBx l x y).2.1).a)),.d (.v (.string ((tBx l x y).2.1).d)),.d (.v (.bool ((tBx l x y).1.2).s)),.d (.v (.string ((tBx l x y).1.2).a)),.d (.v (.string ((tBx l x y).1.2).d)),.d (.v (.bool ((tBx l x y).2.2).s)),.d (.v (.string ((tBx l x y).2.2).a)),.d (.v (.string ((tBx l x y).2.2).d))],.one (.d (.v (.int .i64 (convE 64 l))))]):=by
 have hL:(List.map rdv l).length=l.length:=List.length_map ..
 have hl1:∀ p,p∈l→p.1.z≤67108864∧p.2.z≤67108864:=fun p hp=>⟨Nat.le_trans (hl p hp).1 (by decide),Nat.le_trans (hl p hp).2 (by decide)⟩
 have hUl:∀ i,sle (uF l x y i).1 (uF l x y i).2:=fun i=>ZnW (ZiF x y) (ZhF x y) _
 have hVl:∀ i,sle (vF l x y i).1 (vF l x y i).2:=fun i=>ZnU (ZiF x y) (ZhF x y) _
 refine Zd Tryz.func13 rfl rfl Tryz.ntmps13 rfl (by kernel_rfl) rfl rfl ?_
 refine Zik (l:=l) (by assumption) (by omega) (fun n18 hk_18_1=> ?_)
 refine⟨fun e1=> ?_,fun e1=> ?_⟩
 ·have f20:n18≠0:=Zmb e1
  refine Eq.trans (b:= .tup [.agg [.d (.v (.bool z0.s)),.d (.v (.string z0.a)),.d (.v (.string z0.d)),.d (.v (.bool z0.s)),.d (.v (.string z0.a)),.d (.v (.string z0.d)),.d (.v (.bool z0.s)),.d (.v (.string z0.a)),.d (.v (.string z0.d)),.d (.v (.bool z0.s)),.d (.v (.string z0.a)),.d (.v (.string z0.d))],.one (.d (.v (.int .i64 (n18))))]) ?_ rfl
  rw [show tBx l x y=((z0,z0),(z0,z0)) from if_neg (by rw [← hk_18_1];exact f20),hk_18_1]
 ·have f20:¬ (n18≠0):=fun hh=>hh (Zmc e1)
  refine ZqL (x:=x) (y:=y) (by omega) (by omega) (fun ya24 yb24 hk_24_2 hk_24_3 hk_24_4 hk_24_5 hk_24_6=> ?_)
  refine ZqK (x:=x) (y:=y) (by omega) (by omega) (fun ya26 yb26 hk_26_2 hk_26_3 hk_26_4 hk_26_5 hk_26_6=> ?_)
  refine⟨by kernel_rfl,?_⟩
  refine⟨Nat,fun i=> [(4,.val (.one (.ptr 4 0))),(7,.val (.one (.ptr 7 0))),(8,.val (.one (.ptr 8 0))),(9,.val (.one (.ptr 9 0))),(10,.val (.one (.ptr 10 0))),(27,.val (.one (.d (.list (List.map rdv l))))),(28,int ((List.map rdv l).length:Int)),(29,int (i:Int))],
   fun i=> [(4,.var 38 [.d (.v (.bool z0.s)),.d (.v (.string z0.a)),.d (.v (.string z0.d)),.d (.v (.bool z0.s)),.d (.v (.string z0.a)),.d (.v (.string z0.d)),.d (.v (.bool z0.s)),.d (.v (.string z0.a)),.d (.v (.string z0.d)),.d (.v (.bool z0.s)),.d (.v (.string z0.a)),.d (.v (.string z0.d))]),(7,.var 31 [.d (.v (.bool (cn ya24).s)),.d (.v (.string (cn ya24).a)),.d (.v (.string (cn ya24).d)),.d (.v (.bool (cn yb24).s)),.d (.v (.string (cn yb24).a)),.d (.v (.string (cn yb24).d))]),(8,.var 31 [.d (.v (.bool (cn ya26).s)),.d (.v (.string (cn ya26).a)),.d (.v (.string (cn ya26).d)),.d (.v (.bool (cn yb26).s)),.d (.v (.string (cn yb26).a)),.d (.v (.string (cn yb26).d))]),(9,.var 31 [.d (.v (.bool ((jR (uF l x y) i).1).s)),.d (.v (.string ((jR (uF l x y) i).1).a)),.d (.v (.string ((jR (uF l x y) i).1).d)),.d (.v (.bool ((jR (uF l x y) i).2).s)),.d (.v (.string ((jR (uF l x y) i).2).a)),.d (.v (.string ((jR (uF l x y) i).2).d))]),(10,.var 31 [.d (.v (.bool ((jR (vF l x y) i).1).s)),.d (.v (.string ((jR (vF l x y) i).1).a)),.d (.v (.string ((jR (vF l x y) i).1).d)),.d (.v (.bool ((jR (vF l x y) i).2).s)),.d (.v (.string ((jR (vF l x y) i).2).a)),.d (.v (.string ((jR (vF l x y) i).2).d))])],fun i=>i≤l.length,fun i=>l.length - i,0,?_,Nat.zero_le _,fun i hs=> ?_⟩
  ·constructor<;>(repeat' (first|exact rfl|exact True.intro|exact⟨_,_,rfl⟩|exact(by decide)|apply And.intro))
   all_goals first|exact congrArg (fun n:Int=>D.v (.int .i64 n)) (by omega)|exact congrArg (fun n:Int=>D.v (.int .i64 n)) (by rw [wrap64 _ (by omega) (by omega)];omega)|(simp;done)
  have hju:=jR_z (uF_z hl hx hy) i
  have hjv:=jR_z (vF_z hl hx hy) i
  have hju1:=hju.1
  have hju2:=hju.2
  have hjv1:=hjv.1
  have hjv2:=hjv.2
  refine⟨fun e2=> ?_,fun e2=> ?_⟩
  ·have f30:(i:Int)< ((List.map rdv l).length:Int):=of_decide_eq_true e2
   refine get_ex (l:=l) (i:=i) (by first|omega|exact Nat.mod_lt _ (by omega)) fun x32 hx32=> ?_
   have hzx32:=hl x32 (List.mem_of_getElem? hx32)
   have hzax32:=hzx32.1
   have hzbx32:=hzx32.2
   refine k_ix i [D.v (.bool x32.1.s),D.v (.string x32.1.a),D.v (.string x32.1.d),D.v (.bool x32.2.s),D.v (.string x32.2.a),D.v (.string x32.2.d)] (by first|rfl|omega|(rw [wrap64 _ (by omega) (by omega)];omega)|(rw [wrap64 _ (by omega) (by omega)];split<;>omega)) (Zm hx32) rfl ?_
   refine ZdT (x:=x32.1) (by omega) (fun q36 hk_36_1 hk_36_2=> ?_)
   simp only [cn_z] at hk_36_2
   have s36:sle q36 q36:=Rat.le_refl
   refine ZdT (x:=x32.2) (by omega) (fun q39 hk_39_1 hk_39_2=> ?_)
   simp only [cn_z] at hk_39_2
   have s39:sle q39 q39:=Rat.le_refl
   refine⟨by kernel_rfl,?_⟩
   refine Zib (p:=q36) (q:=q36) (r:=ya24) (u:=yb24) (by assumption) (by assumption) (by omega) (by omega) (by omega) (by omega) (fun ya42 yb42 hk_42_2 hk_42_3 hk_42_4 hk_42_5 hk_42_6=> ?_)
   refine Zib (p:=q39) (q:=q39) (r:=ya26) (u:=yb26) (by assumption) (by assumption) (by omega) (by omega) (by omega) (by omega) (fun ya45 yb45 hk_45_2 hk_45_3 hk_45_4 hk_45_5 hk_45_6=> ?_)
   refine ZqJ (p:=ya42) (q:=yb42) (r:=ya45) (u:=yb45) (by assumption) (by assumption) (by omega) (by omega) (by omega) (by omega) (fun ya46 yb46 hk_46_2 hk_46_3 hk_46_4 hk_46_5 hk_46_6=> ?_)
   have hxp:ptAt l i=x32:=Zo8 hx32
   have hu1:ya46=(uF l x y i).1:=by unfold uF uAt;rw [hxp];subst_vars;rfl
   have hu2:yb46=(uF l x y i).2:=by unfold uF uAt;rw [hxp];subst_vars;rfl
   have hu0:=hk_46_4
   refine⟨by kernel_rfl,?_⟩
   refine Zib (p:=q36) (q:=q36) (r:=ya26) (u:=yb26) (by assumption) (by assumption) (by omega) (by omega) (by omega) (by omega) (fun ya49 yb49 hk_49_2 hk_49_3 hk_49_4 hk_49_5 hk_49_6=> ?_)
   refine Zib (p:=q39) (q:=q39) (r:=ya24) (u:=yb24) (by assumption) (by assumption) (by omega) (by omega) (by omega) (by omega) (fun ya52 yb52 hk_52_2 hk_52_3 hk_52_4 hk_52_5 hk_52_6=> ?_)
   refine ZqM (p:=ya49) (q:=yb49) (r:=ya52) (u:=yb52) (by assumption) (by assumption) (by omega) (by omega) (by omega) (by omega) (fun ya53 yb53 hk_53_2 hk_53_3 hk_53_4 hk_53_5 hk_53_6=> ?_)
   have hv1:ya53=(vF l x y i).1:=by unfold vF vAt;rw [hxp];subst_vars;rfl
   have hv2:yb53=(vF l x y i).2:=by unfold vF vAt;rw [hxp];subst_vars;rfl
   have hv0:=hk_53_4
   refine⟨by kernel_rfl,?_⟩
   refine⟨fun e3=> ?_,fun e3=> ?_⟩
   ·have f55:(i:Int)=0:=Zba e3
    refine⟨by kernel_rfl,?_⟩
    refine Za1 (x:=cn ya46) (y:=cn yb46) (z:=cn ya46) (t:=cn yb46) (by simp only [cn_z];omega) (by simp only [cn_z];omega) (by simp only [cn_z];omega) (by simp only [cn_z];omega) (fun p60 q60 hk_60_2 hk_60_3 hk_60_4 hk_60_5=> ?_)
    try simp only [cn_q] at hk_60_2
    try simp only [cn_q] at hk_60_3
    simp only [cn_z] at hk_60_4
    simp only [cn_z] at hk_60_5
    refine Za1 (x:=cn ya53) (y:=cn yb53) (z:=cn ya53) (t:=cn yb53) (by simp only [cn_z];omega) (by simp only [cn_z];omega) (by simp only [cn_z];omega) (by simp only [cn_z];omega) (fun p63 q63 hk_63_2 hk_63_3 hk_63_4 hk_63_5=> ?_)
    try simp only [cn_q] at hk_63_2
    try simp only [cn_q] at hk_63_3
    simp only [cn_z] at hk_63_4
    simp only [cn_z] at hk_63_5
    refine⟨by kernel_rfl,?_⟩
    have hi0:i=0:=by omega
    have ju1:(sjn (uF l x y) (i+1)).1=p60:=by rw [hk_60_2,ZA hu0,Zdt,hu1,hi0];exact congrArg Prod.fst (Zki _)
    have ju2:(sjn (uF l x y) (i+1)).2=q60:=by rw [hk_60_3,ZB hu0,Zdu,hu2,hi0];exact congrArg Prod.snd (Zki _)
    have jv1:(sjn (vF l x y) (i+1)).1=p63:=by rw [hk_63_2,ZA hv0,Zdt,hv1,hi0];exact congrArg Prod.fst (Zki _)
    have jv2:(sjn (vF l x y) (i+1)).2=q63:=by rw [hk_63_3,ZB hv0,Zdu,hv2,hi0];exact congrArg Prod.snd (Zki _)
    refine⟨i+1,by omega,by simp only;omega,?_⟩
    constructor<;>(repeat' (first|exact rfl|exact True.intro|apply And.intro))
    all_goals first
     |exact congrArg (fun q:Rat=>D.v (.bool (cn q).s)) (Eq.symm ju1)
     |exact congrArg (fun q:Rat=>D.v (.bool (cn q).s)) ju1
     |exact congrArg (fun q:Rat=>D.v (.string (cn q).a)) (Eq.symm ju1)
     |exact congrArg (fun q:Rat=>D.v (.string (cn q).a)) ju1
     |exact congrArg (fun q:Rat=>D.v (.string (cn q).d)) (Eq.symm ju1)
     |exact congrArg (fun q:Rat=>D.v (.string (cn q).d)) ju1
     |exact congrArg (fun q:Rat=>D.v (.bool (cn q).s)) (Eq.symm ju2)
     |exact congrArg (fun q:Rat=>D.v (.bool (cn q).s)) ju2
     |exact congrArg (fun q:Rat=>D.v (.string (cn q).a)) (Eq.symm ju2)
     |exact congrArg (fun q:Rat=>D.v (.string (cn q).a)) ju2
     |exact congrArg (fun q:Rat=>D.v (.string (cn q).d)) (Eq.symm ju2)
     |exact congrArg (fun q:Rat=>D.v (.string (cn q).d)) ju2
     |exact congrArg (fun q:Rat=>D.v (.bool (cn q).s)) (Eq.symm jv1)
     |exact congrArg (fun q:Rat=>D.v (.bool (cn q).s)) jv1
     |exact congrArg (fun q:Rat=>D.v (.string (cn q).a)) (Eq.symm jv1)
     |exact congrArg (fun q:Rat=>D.v (.string (cn q).a)) jv1
     |exact congrArg (fun q:Rat=>D.v (.string (cn q).d)) (Eq.symm jv1)
     |exact congrArg (fun q:Rat=>D.v (.string (cn q).d)) jv1
     |exact congrArg (fun q:Rat=>D.v (.bool (cn q).s)) (Eq.symm jv2)
     |exact congrArg (fun q:Rat=>D.v (.bool (cn q).s)) jv2
     |exact congrArg (fun q:Rat=>D.v (.string (cn q).a)) (Eq.symm jv2)
     |exact congrArg (fun q:Rat=>D.v (.string (cn q).a)) jv2
     |exact congrArg (fun q:Rat=>D.v (.string (cn q).d)) (Eq.symm jv2)
     |exact congrArg (fun q:Rat=>D.v (.string (cn q).d)) jv2
     |exact congrArg (fun n:Int=>D.v (.int .i64 n)) (by rw [wrap64 _ (by omega) (by omega)];omega)
     |exact congrArg (fun n:Int=>D.v (.int .i64 n)) (by omega)
   ·have f55:¬ ((i:Int)=0):=Zbb e3
    refine Za1 (x:=(jR (uF l x y) i).1) (y:=(jR (uF l x y) i).2) (z:=cn ya46) (t:=cn yb46) (by omega) (by omega) (by simp only [cn_z];omega) (by simp only [cn_z];omega) (fun p60 q60 hk_60_2 hk_60_3 hk_60_4 hk_60_5=> ?_)
    try simp only [cn_q] at hk_60_2
    try simp only [cn_q] at hk_60_3
    simp only [cn_z] at hk_60_4
    simp only [cn_z] at hk_60_5
    refine Za1 (x:=(jR (vF l x y) i).1) (y:=(jR (vF l x y) i).2) (z:=cn ya53) (t:=cn yb53) (by omega) (by omega) (by simp only [cn_z];omega) (by simp only [cn_z];omega) (fun p63 q63 hk_63_2 hk_63_3 hk_63_4 hk_63_5=> ?_)
    try simp only [cn_q] at hk_63_2
    try simp only [cn_q] at hk_63_3
    simp only [cn_z] at hk_63_4
    simp only [cn_z] at hk_63_5
    refine⟨by kernel_rfl,?_⟩
    have gu:=Zns (uF l x y) (i:=i) (by omega)
    have gv:=Zns (vF l x y) (i:=i) (by omega)
    have ju1:(sjn (uF l x y) (i+1)).1=p60:=by rw [hk_60_2,gu,ZA (Zdd hUl i),ZA hu0,hu1];rfl
    have ju2:(sjn (uF l x y) (i+1)).2=q60:=by rw [hk_60_3,gu,ZB (Zdd hUl i),ZB hu0,hu2];rfl
    have jv1:(sjn (vF l x y) (i+1)).1=p63:=by rw [hk_63_2,gv,ZA (Zdd hVl i),ZA hv0,hv1];rfl
    have jv2:(sjn (vF l x y) (i+1)).2=q63:=by rw [hk_63_3,gv,ZB (Zdd hVl i),ZB hv0,hv2];rfl
    refine⟨i+1,by omega,by simp only;omega,?_⟩
    constructor<;>(repeat' (first|exact rfl|exact True.intro|apply And.intro))
    all_goals first
     |exact congrArg (fun q:Rat=>D.v (.bool (cn q).s)) (Eq.symm ju1)
     |exact congrArg (fun q:Rat=>D.v (.bool (cn q).s)) ju1
     |exact congrArg (fun q:Rat=>D.v (.string (cn q).a)) (Eq.symm ju1)
     |exact congrArg (fun q:Rat=>D.v (.string (cn q).a)) ju1
     |exact congrArg (fun q:Rat=>D.v (.string (cn q).d)) (Eq.symm ju1)
     |exact congrArg (fun q:Rat=>D.v (.string (cn q).d)) ju1
     |exact congrArg (fun q:Rat=>D.v (.bool (cn q).s)) (Eq.symm ju2)
     |exact congrArg (fun q:Rat=>D.v (.bool (cn q).s)) ju2
     |exact congrArg (fun q:Rat=>D.v (.string (cn q).a)) (Eq.symm ju2)
     |exact congrArg (fun q:Rat=>D.v (.string (cn q).a)) ju2
     |exact congrArg (fun q:Rat=>D.v (.string (cn q).d)) (Eq.symm ju2)
     |exact congrArg (fun q:Rat=>D.v (.string (cn q).d)) ju2
     |exact congrArg (fun q:Rat=>D.v (.bool (cn q).s)) (Eq.symm jv1)
     |exact congrArg (fun q:Rat=>D.v (.bool (cn q).s)) jv1
     |exact congrArg (fun q:Rat=>D.v (.string (cn q).a)) (Eq.symm jv1)
     |exact congrArg (fun q:Rat=>D.v (.string (cn q).a)) jv1
     |exact congrArg (fun q:Rat=>D.v (.string (cn q).d)) (Eq.symm jv1)
     |exact congrArg (fun q:Rat=>D.v (.string (cn q).d)) jv1
     |exact congrArg (fun q:Rat=>D.v (.bool (cn q).s)) (Eq.symm jv2)
     |exact congrArg (fun q:Rat=>D.v (.bool (cn q).s)) jv2
     |exact congrArg (fun q:Rat=>D.v (.string (cn q).a)) (Eq.symm jv2)
     |exact congrArg (fun q:Rat=>D.v (.string (cn q).a)) jv2
     |exact congrArg (fun q:Rat=>D.v (.string (cn q).d)) (Eq.symm jv2)
     |exact congrArg (fun q:Rat=>D.v (.string (cn q).d)) jv2
     |exact congrArg (fun n:Int=>D.v (.int .i64 n)) (by rw [wrap64 _ (by omega) (by omega)];omega)
     |exact congrArg (fun n:Int=>D.v (.int .i64 n)) (by omega)
  ·have f30:¬ ((i:Int)< ((List.map rdv l).length:Int)):=of_decide_eq_false e2
   refine Eq.trans (b:= .tup [.agg [.d (.v (.bool ((jR (uF l x y) i).1).s)),.d (.v (.string ((jR (uF l x y) i).1).a)),.d (.v (.string ((jR (uF l x y) i).1).d)),.d (.v (.bool ((jR (vF l x y) i).1).s)),.d (.v (.string ((jR (vF l x y) i).1).a)),.d (.v (.string ((jR (vF l x y) i).1).d)),.d (.v (.bool ((jR (uF l x y) i).2).s)),.d (.v (.string ((jR (uF l x y) i).2).a)),.d (.v (.string ((jR (uF l x y) i).2).d)),.d (.v (.bool ((jR (vF l x y) i).2).s)),.d (.v (.string ((jR (vF l x y) i).2).a)),.d (.v (.string ((jR (vF l x y) i).2).d))],.one (.d (.v (.int .i64 (0))))]) ?_ rfl
   obtain rfl:i=l.length:=by omega
   rw [show tBx l x y=(jR (uF l x y) l.length,jR (vF l x y) l.length) from if_pos (by omega),show convE 64 l=0 from by omega]
end
end Go.Proofs.YtiekmbmgpachpaaGreatDoor.eng
namespace Go.Proofs.YtiekmbmgpachpaaGreatDoor.eng
open Go.RowKit num mem seg q held ratA ratB ratC ratD ratE vars ratF trq
theorem ZoS {l h t:Rat} (h1:l≤t) (h2:t≤h):t*t≤sqHi l h:=by
 obtain⟨g1,g2⟩:=Z6 [h*h] (l*l)
 have g2:=g2 _ List.mem_cons_self
 unfold sqHi
 by_cases h0:0≤t
 ·refine Rat.le_trans ?_ g2
  have:=Rat.mul_nonneg (by grind:0≤h - t) (by grind:0≤h+t)
  grind
 ·refine Rat.le_trans ?_ g1
  have:=Rat.mul_nonneg (by grind:0≤t - l) (by grind:0≤-t - l)
  grind
theorem ZoR {l h t:Rat} (h1:l≤t) (h2:t≤h):sqLo l h≤t*t:=by
 unfold sqLo
 split
 ·exact sq_nonneg' t
 ·rename_i hn
  obtain⟨g1,g2⟩:=ZaJ [h*h] (l*l)
  have g2:=g2 _ List.mem_cons_self
  rw [Z7,qi_0] at hn
  by_cases h0:0≤l
  ·refine Rat.le_trans g1 ?_
   have:=Rat.mul_nonneg (by grind:0≤t - l) (by grind:0≤t+l)
   grind
  ·have hh:h< 0:=by
    by_cases g:h< 0
    ·exact g
    ·exact absurd ⟨by grind,by grind⟩ hn
   refine Rat.le_trans g2 ?_
   have:=Rat.mul_nonneg (by grind:0≤h - t) (by grind:0≤-t - h)
   grind
theorem Zrs (t:Rat):cosq false t=cosF (t*t):=by rw [← ZO,Zc1]
theorem Zhg {l h t:Rat} (h1:l≤t) (h2:t≤h):(cs3 l h).1≤cosq false t∧cosq false t≤(cs3 l h).2:=by
 rw [← ZlY (Rat.le_trans h1 h2),Zrs]
 exact⟨Zaa (sq_nonneg' t) (ZoS h1 h2),Zaa (ZbK l h) (ZoR h1 h2)⟩
theorem Ze1 {l h t:Rat} (hlh:l≤h) (ht:t∈ext3 l h):l≤t∧t≤h:=by
 have key:∀ (e:List Rat) (n:Int),(∀ x,x∈e→l≤x∧x≤h)→∀ x,x∈ext l h e n→l≤x∧x≤h:=by
  intro e n he x hx
  unfold ext at hx
  split at hx
  ·rename_i hq
   rcases List.mem_append.1 hx with g|g
   ·exact he x g
   ·rw [List.mem_singleton.1 g];exact Z7.1 hq
  ·exact he x hx
 unfold ext3 at ht
 simp only [List.foldl_cons,List.foldl_nil] at ht
 refine key _ _ (key _ _ (key _ _ ?_)) t ht
 intro x hx
 simp only [List.mem_cons,List.not_mem_nil,or_false] at hx
 rcases hx with rfl|rfl
 ·exact⟨Rat.le_refl,hlh⟩
 ·exact⟨hlh,Rat.le_refl⟩
theorem ZlX {l h:Rat} (hlh:l≤h):(∃ t,(l≤t∧t≤h)∧(cs3 l h).1=cosq false t)∧∃ t,(l≤t∧t≤h)∧(cs3 l h).2=cosq false t:=by
 constructor
 ·rcases Zaj ((ext3 l h).map (cosq false)) (cosq false l) with g|g
  ·exact⟨l,⟨Rat.le_refl,hlh⟩,g⟩
  ·obtain⟨t,ht,e⟩:=List.mem_map.1 g
   exact⟨t,Ze1 hlh ht,e.symm⟩
 ·rcases Z5 ((ext3 l h).map (cosq false)) (cosq false l) with g|g
  ·exact⟨l,⟨Rat.le_refl,hlh⟩,g⟩
  ·obtain⟨t,ht,e⟩:=List.mem_map.1 g
   exact⟨t,Ze1 hlh ht,e.symm⟩
theorem Zkg {l h:Rat} (hlh:l≤h):(∃ t,(l≤t∧t≤h)∧(sn3 l h).1=sinq t)∧∃ t,(l≤t∧t≤h)∧(sn3 l h).2=sinq t:=by
 constructor
 ·rcases Zaj ((ext3 l h).map sinq) (sinq l) with g|g
  ·exact⟨l,⟨Rat.le_refl,hlh⟩,g⟩
  ·obtain⟨t,ht,e⟩:=List.mem_map.1 g
   exact⟨t,Ze1 hlh ht,e.symm⟩
 ·rcases Z5 ((ext3 l h).map sinq) (sinq l) with g|g
  ·exact⟨l,⟨Rat.le_refl,hlh⟩,g⟩
  ·obtain⟨t,ht,e⟩:=List.mem_map.1 g
   exact⟨t,Ze1 hlh ht,e.symm⟩
theorem Zcq {s t:Rat} (h:0≤(s - t)*(1 - s*t)):sinq t≤sinq s:=by
 obtain⟨_,e1,_⟩:=Zby s
 obtain⟨_,e2,_⟩:=Zby t
 have p1:=ZaO s
 have p2:=ZaO t
 have hp:0< (1+s*s)*(1+t*t):=Rat.mul_pos p1 p2
 have key:(sinq s - sinq t)*((1+s*s)*(1+t*t))=2*((s - t)*(1 - s*t)):=by
  have a1:(sinq s - sinq t)*((1+s*s)*(1+t*t))=sinq s*(1+s*s)*(1+t*t) - sinq t*(1+t*t)*(1+s*s):=by grind
  rw [a1,e1,e2];grind
 have:0≤sinq s - sinq t:=(ZcZ hp key).1 (by grind)
 grind
theorem Zkf {l h a:Rat} (ha:a=-1∨a=1) (h1:l≤a) (h2:a≤h):a∈ext3 l h:=by
 have hq:hasQ l h a=true:=Z7.2 ⟨h1,h2⟩
 unfold ext3 ext
 simp only [List.foldl_cons,List.foldl_nil,qi_1,Zm2,qi_0]
 rcases ha with rfl|rfl
 ·rw [if_pos hq];(repeat' split)<;>simp
 ·rw [if_pos hq];simp
theorem Zf6 (l h:Rat):l∈ext3 l h∧h∈ext3 l h:=by
 unfold ext3 ext
 simp only [List.foldl_cons,List.foldl_nil]
 constructor<;>(repeat' split)<;>simp
theorem Zbd {l h t:Rat} (ht:t∈ext3 l h):(sn3 l h).1≤sinq t∧sinq t≤(sn3 l h).2:=
 ⟨(ZaJ _ _).2 _ (List.mem_map.2 ⟨t,ht,rfl⟩),(Z6 _ _).2 _ (List.mem_map.2 ⟨t,ht,rfl⟩)⟩
theorem mulp' {a b:Rat} (ha:0≤a) (hb:0≤b):0≤a*b:=Rat.mul_nonneg ha hb
theorem Zke {l h t:Rat} (h1:l≤t) (h2:t≤h):(sn3 l h).1≤sinq t:=by
 obtain⟨ml,mh⟩:=Zf6 l h
 by_cases hm:l≤-1∧-1≤h
 ·refine Rat.le_trans (Zbd (Zkf (.inl rfl) hm.1 hm.2)).1 ?_
  rw [ZeA.2.2.2.1];exact(ZbI t).2.1
 ·by_cases hh:h< -1
  ·refine Rat.le_trans (Zbd mh).1 (Zcq ?_)
   have a1:0≤(h - t)*(t*h - 1):=mulp' (by grind) (by have:=mulp' (show 0≤-1 - t by grind) (show 0≤-1 - h by grind);grind)
   grind
  ·have hl:-1< l:=by grind
   by_cases hc:t*l≤1
   ·refine Rat.le_trans (Zbd ml).1 (Zcq ?_)
    exact mulp' (by grind) (by grind)
   ·have ht1:1< t:=by
     by_cases g:1< t
     ·exact g
     ·exfalso
      apply hc
      by_cases g0:0≤l
      ·have:=mulp' (show 0≤1 - t by grind) g0
       have:=mulp' (show 0≤1 - l by grind) (show (0:Rat)≤1 by decide+kernel)
       grind
      ·have a1:=mulp' (show 0≤-l by grind) (show 0≤1+t by grind)
       have a2:0≤1+l:=by grind
       grind
    refine Rat.le_trans (Zbd mh).1 (Zcq ?_)
    have a1:0≤(h - t)*(t*h - 1):=mulp' (by grind) (by have:=mulp' (show 0≤t - 1 by grind) (show 0≤h - 1 by grind);grind)
    grind
theorem ZhG {l h t:Rat} (h1:l≤t) (h2:t≤h):sinq t≤(sn3 l h).2:=by
 obtain⟨ml,mh⟩:=Zf6 l h
 by_cases hm:l≤1∧1≤h
 ·refine Rat.le_trans ?_ (Zbd (Zkf (.inr rfl) hm.1 hm.2)).2
  rw [ZeA.2.2.2.2.2];exact(ZbI t).2.2
 ·by_cases hh:1< l
  ·refine Rat.le_trans (Zcq ?_) (Zbd ml).2
   have a1:0≤(t - l)*(t*l - 1):=mulp' (by grind) (by have:=mulp' (show 0≤t - 1 by grind) (show 0≤l - 1 by grind);grind)
   grind
  ·have hl:h< 1:=by grind
   by_cases hc:t*h≤1
   ·refine Rat.le_trans (Zcq ?_) (Zbd mh).2
    exact mulp' (by grind) (by grind)
   ·have ht1:t< -1:=by
     by_cases g:t< -1
     ·exact g
     ·exfalso
      apply hc
      by_cases g0:h≤0
      ·have:=mulp' (show 0≤1+t by grind) (show 0≤-h by grind)
       grind
      ·have a1:=mulp' (show 0≤h by grind) (show 0≤1 - t by grind)
       grind
    refine Rat.le_trans (Zcq ?_) (Zbd ml).2
    have a1:0≤(t - l)*(t*l - 1):=mulp' (by grind) (by have:=mulp' (show 0≤-1 - t by grind) (show 0≤-1 - l by grind);grind)
    grind
theorem ZpI {l h l' h':Rat} (h1:l≤l') (h2:l'≤h') (h3:h'≤h):(cs3 l h).1≤(cs3 l' h').1∧(cs3 l' h').2≤(cs3 l h).2:=by
 obtain⟨⟨t,⟨a1,a2⟩,e1⟩,u,⟨b1,b2⟩,e2⟩:=ZlX h2
 rw [e1,e2]
 exact⟨(Zhg (Rat.le_trans h1 a1) (Rat.le_trans a2 h3)).1,(Zhg (Rat.le_trans h1 b1) (Rat.le_trans b2 h3)).2⟩
theorem ZoW {l h l' h':Rat} (h1:l≤l') (h2:l'≤h') (h3:h'≤h):(sn3 l h).1≤(sn3 l' h').1∧(sn3 l' h').2≤(sn3 l h).2:=by
 obtain⟨⟨t,⟨a1,a2⟩,e1⟩,u,⟨b1,b2⟩,e2⟩:=Zkg h2
 rw [e1,e2]
 exact⟨Zke (Rat.le_trans h1 a1) (Rat.le_trans a2 h3),ZhG (Rat.le_trans h1 b1) (Rat.le_trans b2 h3)⟩
theorem ZcW {a c d c' d':Rat} (h1:c≤c') (h2:c'≤d') (h3:d'≤d):mulLo a a c d≤mulLo a a c' d'∧mulHi a a c' d'≤mulHi a a c d:=by
 have k1:=ZbE (a:=a) (b:=a) (x:=a) (y:=c') Rat.le_refl Rat.le_refl h1 (Rat.le_trans h2 h3)
 have k2:=ZbE (a:=a) (b:=a) (x:=a) (y:=d') Rat.le_refl Rat.le_refl (Rat.le_trans h1 h2) h3
 constructor
 ·rcases Zaj [a*d',a*c',a*d'] (a*c') with g|g
  ·unfold mulLo at*;rw [g];exact k1.1
  ·simp only [List.mem_cons,List.not_mem_nil,or_false] at g
   unfold mulLo at*
   rcases g with g|g|g<;>rw [g]<;>first|exact k1.1|exact k2.1
 ·rcases Z5 [a*d',a*c',a*d'] (a*c') with g|g
  ·unfold mulHi at*;rw [g];exact k1.2
  ·simp only [List.mem_cons,List.not_mem_nil,or_false] at g
   unfold mulHi at*
   rcases g with g|g|g<;>rw [g]<;>first|exact k1.2|exact k2.2
def inS (a b:Rat×Rat):Prop:=a.1≤b.1∧b.2≤a.2
theorem ZoN {c s c' s':Rat×Rat} (hc:inS c c') (hs:inS s s') (hc':sle c'.1 c'.2) (hs':sle s'.1 s'.2) (p:RV×RV):inS (uAt c s p) (uAt c' s' p):=by
 have k1:=ZcW (a:=p.1.q) hc.1 hc' hc.2
 have k2:=ZcW (a:=p.2.q) hs.1 hs' hs.2
 unfold inS uAt;simp only;grind
theorem ZoJ {c s c' s':Rat×Rat} (hc:inS c c') (hs:inS s s') (hc':sle c'.1 c'.2) (hs':sle s'.1 s'.2) (p:RV×RV):inS (vAt c s p) (vAt c' s' p):=by
 have k1:=ZcW (a:=p.1.q) hs.1 hs' hs.2
 have k2:=ZcW (a:=p.2.q) hc.1 hc' hc.2
 unfold inS vAt;simp only;grind
theorem ZoO {c s:Rat×Rat} {x y:Rat} (hc:c.1≤x∧x≤c.2) (hs:s.1≤y∧y≤s.2) (p:RV×RV):(uAt c s p).1≤p.1.q*x - p.2.q*y∧p.1.q*x - p.2.q*y≤(uAt c s p).2:=by
 have k1:=ZbE (a:=p.1.q) (b:=p.1.q) Rat.le_refl Rat.le_refl hc.1 hc.2
 have k2:=ZbE (a:=p.2.q) (b:=p.2.q) Rat.le_refl Rat.le_refl hs.1 hs.2
 unfold uAt;simp only;grind
theorem ZoK {c s:Rat×Rat} {x y:Rat} (hc:c.1≤x∧x≤c.2) (hs:s.1≤y∧y≤s.2) (p:RV×RV):(vAt c s p).1≤p.1.q*y+p.2.q*x∧p.1.q*y+p.2.q*x≤(vAt c s p).2:=by
 have k1:=ZbE (a:=p.1.q) (b:=p.1.q) Rat.le_refl Rat.le_refl hs.1 hs.2
 have k2:=ZbE (a:=p.2.q) (b:=p.2.q) Rat.le_refl Rat.le_refl hc.1 hc.2
 unfold vAt;simp only;grind
theorem ZeG (f:Nat→Rat×Rat):∀ n i,i< n→inS (sjn f n) (f i)
 |n+1,i,h=>by
  have hm:minQ (sjn f n).1 (f n).1≤(sjn f n).1∧minQ (sjn f n).1 (f n).1≤(f n).1:=by unfold minQ;grind
  have hx:(sjn f n).2≤maxQ (sjn f n).2 (f n).2∧(f n).2≤maxQ (sjn f n).2 (f n).2:=by unfold maxQ;grind
  by_cases e:i=n
  ·subst e;exact⟨hm.2,hx.2⟩
  ·have ih:=ZeG f n i (by omega)
   exact⟨Rat.le_trans hm.1 ih.1,Rat.le_trans ih.2 hx.1⟩
theorem Zb6 {f:Nat→Rat×Rat} {a:Rat×Rat}:∀ n,(∀ i,i< n→inS a (f i))→0< n→inS a (sjn f n)
 |1,h,_=>by rw [Zki];exact h 0 (by omega)
 |n+2,h,_=>by
  have ih:=Zb6 (n+1) (fun i hi=>h i (by omega)) (by omega)
  have h1:=h (n+1) (by omega)
  unfold inS at*
  show a.1≤minQ (sjn f (n+1)).1 (f (n+1)).1∧maxQ (sjn f (n+1)).2 (f (n+1)).2≤a.2
  unfold minQ maxQ
  constructor<;>split<;>grind
theorem Zkh {f g:Nat→Rat×Rat} {n:Nat} (h:∀ i,inS (f i) (g i)) (h0:0< n):inS (sjn f n) (sjn g n):=
 Zb6 n (fun i hi=>by have:=ZeG f n i hi;have:=h i;unfold inS at*;exact⟨Rat.le_trans (by grind) this.1,Rat.le_trans this.2 (by grind)⟩) h0
end Go.Proofs.YtiekmbmgpachpaaGreatDoor.eng
namespace Go.Proofs.YtiekmbmgpachpaaGreatDoor.eng
open Go.RowKit num mem seg q held ratA ratB ratC ratD ratE vars ratF trq
theorem Zlt {a b n:Int}:n∈ivl a b↔a≤n∧n≤b:=by
 unfold ivl
 rw [List.mem_map]
 constructor
 ·rintro⟨i,hi,rfl⟩
  have:=List.mem_range.1 hi
  omega
 ·rintro⟨h1,h2⟩
  exact⟨(n - a).toNat,List.mem_range.2 (by omega),by omega⟩
theorem ZjG {xs ys:List Int} {c:Int×Int}:c∈cellsL xs ys↔c.1∈xs∧c.2∈ys:=by
 unfold cellsL
 rw [List.mem_flatMap]
 constructor
 ·rintro⟨v,hv,h⟩
  obtain⟨u,hu,rfl⟩:=List.mem_map.1 h
  exact⟨hu,hv⟩
 ·rintro⟨h1,h2⟩
  exact⟨c.2,h2,List.mem_map.2 ⟨c.1,h1,rfl⟩⟩
theorem ZbX {p q:Rat} (h:p≤q):c1 p≤c1 q:=by
 unfold c1
 exact Rat.le_floor_iff.2 (Rat.le_trans (Rat.le_floor_iff.1 (Int.le_refl _)) h)
theorem ZcC {p q:Rat} (h:p≤q):c0 p≤c0 q:=by
 have h1:-q≤-p:=by grind
 have:=ZbX h1
 unfold c0;unfold c1 at this;omega
theorem Zej {x y z t:RV} (hx:x.q≤z.q) (hy:y.q≤t.q) (h1:-4≤x.q) (h2:z.q≤4) (h3:-4≤y.q) (h4:t.q≤4):gridR x y z t=(cellsL (ivl (c0 x.q) (c1 z.q)) (ivl (c0 y.q) (c1 t.q)),0):=by
 have e0:c0 (-4)=-5:=by decide+kernel
 have e1:c1 4=4:=by decide+kernel
 have a1:=ZcC h1;have a2:=ZbX h2;have a3:=ZcC h3;have a4:=ZbX h4
 rw [e0] at a1 a3
 rw [e1] at a2 a4
 have b1:=Za5 hx;have b2:=Za5 hy
 have q1:((-64:Int):Rat)< -4:=by decide+kernel
 have q2:(4:Rat)< ((64:Int):Rat):=by decide+kernel
 unfold gridR
 rw [if_pos ⟨hx,hy⟩,if_pos ⟨⟨by grind,by grind⟩,⟨by grind,by grind⟩⟩,if_neg]
 have hm:(c1 z.q - c0 x.q+1)*(c1 t.q - c0 y.q+1)≤10*10:=Int.mul_le_mul (by omega) (by omega) (by omega) (by omega)
 omega
theorem Zl8 {x y z t x' y' z' t':Rat} (h1:x≤x') (h2:z'≤z) (h3:y≤y') (h4:t'≤t):∀ c,c∈cellsL (ivl (c0 x') (c1 z')) (ivl (c0 y') (c1 t'))→c∈cellsL (ivl (c0 x) (c1 z)) (ivl (c0 y) (c1 t)):=by
 intro c hc
 rw [ZjG,Zlt,Zlt] at hc ⊢
 have:=ZcC h1;have:=ZbX h2;have:=ZcC h3;have:=ZbX h4
 omega
theorem Zgh {x y z t:Rat} (hx:x≤z) (hy:y≤t):0< (cellsL (ivl (c0 x) (c1 z)) (ivl (c0 y) (c1 t))).length:=by
 have b1:=Za5 hx;have b2:=Za5 hy
 rw [ZcB,ZbR,ZbR]
 exact Nat.mul_pos (by omega) (by omega)
theorem ZdH {x y z t:Rat} (h1:-4≤x) (h2:z≤4) (h3:-4≤y) (h4:t≤4):(cellsL (ivl (c0 x) (c1 z)) (ivl (c0 y) (c1 t))).length≤100:=by
 have e0:c0 (-4)=-5:=by decide+kernel
 have e1:c1 4=4:=by decide+kernel
 have a1:=ZcC h1;have a2:=ZbX h2;have a3:=ZcC h3;have a4:=ZbX h4
 rw [e0] at a1 a3
 rw [e1] at a2 a4
 rw [ZcB,ZbR,ZbR]
 show _≤10*10
 exact Nat.mul_le_mul (by omega) (by omega)
theorem Zoy {l h:Rat} (hlh:l≤h):-1≤(cs3 l h).1∧(cs3 l h).2≤1:=by
 obtain⟨⟨t,_,e1⟩,u,_,e2⟩:=ZlX hlh
 rw [e1,e2];exact⟨(ZbI t).1.1,(ZbI u).1.2⟩
theorem Zn2 {l h:Rat} (hlh:l≤h):-1≤(sn3 l h).1∧(sn3 l h).2≤1:=by
 obtain⟨⟨t,_,e1⟩,u,_,e2⟩:=Zkg hlh
 rw [e1,e2];exact⟨(ZbI t).2.1,(ZbI u).2.2⟩
theorem ZeU {a c d m:Rat} (h1:-1≤c) (h2:c≤d) (h3:d≤1) (ha:-m≤a∧a≤m):-m≤mulLo a a c d∧mulHi a a c d≤m:=by
 have k:∀ x,-1≤x→x≤1→-m≤a*x∧a*x≤m:=by
  intro x x1 x2
  have a1:=mulp' (show 0≤m - a by grind) (show 0≤1+x by grind)
  have a2:=mulp' (show 0≤m+a by grind) (show 0≤1 - x by grind)
  have a3:=mulp' (show 0≤m - a by grind) (show 0≤1 - x by grind)
  have a4:=mulp' (show 0≤m+a by grind) (show 0≤1+x by grind)
  grind
 have kc:=k c h1 (Rat.le_trans h2 h3)
 have kd:=k d (Rat.le_trans h1 h2) h3
 constructor
 ·rcases Zaj [a*d,a*c,a*d] (a*c) with g|g
  ·unfold mulLo;rw [g];exact kc.1
  ·simp only [List.mem_cons,List.not_mem_nil,or_false] at g
   unfold mulLo
   rcases g with g|g|g<;>rw [g]<;>first|exact kc.1|exact kd.1
 ·rcases Z5 [a*d,a*c,a*d] (a*c) with g|g
  ·unfold mulHi;rw [g];exact kc.2
  ·simp only [List.mem_cons,List.not_mem_nil,or_false] at g
   unfold mulHi
   rcases g with g|g|g<;>rw [g]<;>first|exact kc.2|exact kd.2
def rotP (c s:Rat) (p:poly.Pt):poly.Pt:=(c*p.1 - s*p.2,s*p.1+c*p.2)
theorem Zkv {c s:Rat} (h:c*c+s*s=1) (a b d:poly.Pt):poly.ori (rotP c s a) (rotP c s b) (rotP c s d)=poly.ori a b d:=by
 have e:poly.ori (rotP c s a) (rotP c s b) (rotP c s d)=(c*c+s*s)*poly.ori a b d:=by unfold poly.ori rotP;grind
 rw [e,h];grind
theorem Zqo {c s:Rat} (h:c*c+s*s=1) (a b:poly.Pt):poly.cr (rotP c s a) (rotP c s b)=poly.cr a b:=by
 have e:poly.cr (rotP c s a) (rotP c s b)=(c*c+s*s)*poly.cr a b:=by unfold poly.cr rotP;grind
 rw [e,h];grind
theorem Zfg {f g:Nat→Rat}:∀ n,(∀ i,i< n→f i=g i)→poly.sumTo f n=poly.sumTo g n
 |0,_=>rfl
 |n+1,h=>by
  show poly.sumTo f n+f n=poly.sumTo g n+g n
  rw [Zfg n fun i hi=>h i (by omega),h n (by omega)]
theorem ZnP {c s:Rat} (h:c*c+s*s=1) {l l':List (RV×RV)} (hl:l'.length=l.length) (hp:∀ i,i< l.length→pts l' i=rotP c s (pts l i)):areaQ l'=areaQ l:=by
 have hn:∀ i,i< l.length→(i+1) % l.length< l.length:=fun i hi=>Nat.mod_lt _ (by omega)
 have hE:poly.Edges (pts l') l'.length↔poly.Edges (pts l) l.length:=by
  rw [hl]
  unfold poly.Edges
  constructor
  ·intro g i k hi h2 hk
   have:=g i k hi h2 hk
   rwa [hp i hi,hp _ (Nat.mod_lt _ (by omega)),hp _ (Nat.mod_lt _ (by omega)),Zkv h] at this
  ·intro g i k hi h2 hk
   rw [hp i hi,hp _ (Nat.mod_lt _ (by omega)),hp _ (Nat.mod_lt _ (by omega)),Zkv h]
   exact g i k hi h2 hk
 have hc:convE 64 l'=0↔convE 64 l=0:=by rw [Zcj,Zcj,hl,← hl,hE,hl]
 have hs:poly.ringSum (pts l') l'.length=poly.ringSum (pts l) l.length:=by
  rw [hl]
  exact Zfg _ fun i hi=>by rw [hp i hi,hp _ (hn i hi),Zqo h]
 unfold areaQ
 by_cases g:convE 64 l=0
 ·rw [if_pos g,if_pos (hc.2 g),hs]
 ·rw [if_neg g,if_neg fun e=>g (hc.1 e)]
end Go.Proofs.YtiekmbmgpachpaaGreatDoor.eng
namespace Go.Proofs.YtiekmbmgpachpaaGreatDoor.eng
open Go.RowKit num mem seg q held ratA ratB ratC
theorem Zjy (n:Int) (d:Nat) (hd:0< d):((n:Rat) / (d:Rat)).num=n / (Nat.gcd n.natAbs d:Int)∧((n:Rat) / (d:Rat)).den=d / Nat.gcd n.natAbs d:=by
 have hg:0< Nat.gcd n.natAbs d:=Nat.gcd_pos_of_pos_right _ hd
 obtain⟨m,hm⟩:(Nat.gcd n.natAbs d:Int) ∣ n:=Int.ofNat_dvd_left.2 (Nat.gcd_dvd_left _ _)
 obtain⟨e,he⟩:=Nat.gcd_dvd_right n.natAbs d
 have hgz:(Nat.gcd n.natAbs d:Int)≠0:=by omega
 have hm2:n / (Nat.gcd n.natAbs d:Int)=m:=by
  conv=>lhs;lhs;rw [hm]
  exact Int.mul_ediv_cancel_left m hgz
 have he2:d / Nat.gcd n.natAbs d=e:=by
  conv=>lhs;lhs;rw [he]
  exact Nat.mul_div_cancel_left e hg
 have he0:e≠0:=by
  rintro rfl
  omega
 have hc:Nat.Coprime m.natAbs e:=by
  have h1:n.natAbs=Nat.gcd n.natAbs d*m.natAbs:=by
   conv=>lhs;rw [hm]
   rw [Int.natAbs_mul,Int.natAbs_natCast]
  have h2:=Nat.coprime_div_gcd_div_gcd hg
  rw [he2] at h2
  have h3:n.natAbs / Nat.gcd n.natAbs d=m.natAbs:=by
   conv=>lhs;lhs;rw [h1]
   exact Nat.mul_div_cancel_left _ hg
  rwa [h3] at h2
 have hq:(n:Rat) / (d:Rat)=⟨m,e,he0,hc⟩:=by
  have h1:(m:Rat) / (e:Rat)=⟨m,e,he0,hc⟩:=by rw [← Rat.mkRat_eq_div];exact Rat.mkRat_self ⟨m,e,he0,hc⟩
  rw [← h1]
  have e1:(n:Rat)=((Nat.gcd n.natAbs d:Nat):Rat)*(m:Rat):=by
   conv=>lhs;rw [hm]
   rw [Rat.intCast_mul];rfl
  have e2:(d:Rat)=((Nat.gcd n.natAbs d:Nat):Rat)*(e:Rat):=by
   conv=>lhs;rw [he]
   rw [Rat.natCast_mul]
  have hgq:((Nat.gcd n.natAbs d:Nat):Rat)≠0:=by
   intro h;have:=Rat.natCast_eq_zero_iff.1 h;omega
  have heq:(e:Rat)≠0:=by
   intro h;have:=Rat.natCast_eq_zero_iff.1 h;omega
  rw [e1,e2]
  grind
 rw [hq,hm2,he2]
 exact⟨rfl,rfl⟩
theorem ZpP (n:Int) (d:Nat) (hd:0< d):cn ((n:Rat) / (d:Rat))=⟨decide (n< 0),enc (n.natAbs / Nat.gcd n.natAbs d),enc (d / Nat.gcd n.natAbs d)⟩:=by
 obtain⟨h1,h2⟩:=Zjy n d hd
 have hg:0< Nat.gcd n.natAbs d:=Nat.gcd_pos_of_pos_right _ hd
 have hdv:Nat.gcd n.natAbs d ∣ n.natAbs:=Nat.gcd_dvd_left _ _
 unfold cn
 rw [h1,h2]
 have e1:(n / (Nat.gcd n.natAbs d:Int)).natAbs=n.natAbs / Nat.gcd n.natAbs d:=by
  rw [Int.natAbs_ediv_of_dvd (Int.ofNat_dvd_left.2 hdv),Int.natAbs_natCast]
 have e2:decide (n / (Nat.gcd n.natAbs d:Int)< 0)=decide (n< 0):=by
  refine decide_eq_decide.2 ⟨fun h=> ?_,fun h=>Int.ediv_neg_of_neg_of_pos h (by omega)⟩
  by_cases g:n< 0
  ·exact g
  ·exact absurd h (by have:=Int.ediv_nonneg (a:=n) (b:=(Nat.gcd n.natAbs d:Int)) (by omega) (by omega);omega)
 rw [e1,e2]
end Go.Proofs.YtiekmbmgpachpaaGreatDoor.eng
namespace Go.Proofs.YtiekmbmgpachpaaGreatDoor.eng
open Go.RowKit num mem seg q held ratA ratB ratC ratD ratE vars ratF natC natD natI sub32
section
variable {K : AV → Prop} {T : TypeId} {ox oy : Operand}
theorem ZmK (T:TypeId) (ox oy:Operand) (x y:Int) (hy:y≠0) (w:World):(do eqGuard .rem T ox oy (.int .i64 x) (.int .i64 y);binOp .rem T (.int .i64 x) (.int .i64 y):Sem Value).run Tryz.prog w= .ok (.int .i64 (x.tmod y)) w:=by
 have hg:eqGuard .rem T ox oy (.int .i64 x) (.int .i64 y)=pure ():=rfl
 rw [hg,binOp_rem]
 unfold Op.intDiv
 rw [if_neg hy]
 rfl
theorem ZqU {x y:Int} (r:Int) (hy:y≠0) (hr:x.tmod y=r) (k:K (int r)):AskB .rem T ox oy (.int .i64 x) (.int .i64 y) K:=⟨_,⟨_,rfl,rfl,ZmK T ox oy x y hy⟩,by rw [hr];exact k⟩
theorem ZmN (T:TypeId) (ox oy:Operand) (x y r:Int) (hy:y≠0) (hr:IntKind.i64.wrap (x.tdiv y)=r) (w:World):(do eqGuard .quo T ox oy (.int .i64 x) (.int .i64 y);binOp .quo T (.int .i64 x) (.int .i64 y):Sem Value).run Tryz.prog w= .ok (.int .i64 r) w:=by
 have hb:Op.intDiv .quo .i64 x y=pure (.int .i64 r):=by
  unfold Op.intDiv
  rw [if_neg hy]
  show pure (Value.int .i64 (IntKind.i64.wrap (x.tdiv y)))=_
  rw [hr]
 rw [eqGuard_quo,binOp_quo,hb]
 rfl
theorem Zoi {x y:Int} (r:Int) (hy:y≠0) (hr:IntKind.i64.wrap (x.tdiv y)=r) (k:K (int r)):AskB .quo T ox oy (.int .i64 x) (.int .i64 y) K:=⟨_,⟨_,rfl,rfl,ZmN T ox oy x y r hy hr⟩,k⟩
end
def stD (n:Int):List D:= [D.v (.int .i64 n)]
def nextV (l:List Int) (n:Int):Int:=match l with
 | []=>0
 |x :: _=>if n< 1 then 0 else x % n
def nextL (l:List Int) (n:Int):List Int:=match l with
 | []=> []
 |x :: r=>if n< 1 then x :: r else r
theorem ZcV {l:List Int} {n:Int} (h:1≤n):0≤nextV l n∧nextV l n< n:=by
 unfold nextV
 split
 ·omega
 ·rw [if_neg (by omega)]
  exact⟨Int.emod_nonneg _ (by omega),Int.emod_lt_of_pos _ (by omega)⟩
theorem ZaP {l:List Int} {n x:Int} (h:x∈nextL l n):x∈l:=by
 unfold nextL at h
 split at h
 ·exact h
 ·split at h
  ·exact h
  ·exact List.mem_cons_of_mem _ h
theorem ZnO {x n:Int} (hn:1≤n):(if x.tmod n< 0 then x.tmod n+n else x.tmod n)=x % n:=by
 have h1:=Int.emod_nonneg x (show n≠0 by omega)
 have h2:=Int.emod_lt_of_pos x (show 0< n by omega)
 rw [Int.tmod_eq_emod]
 by_cases hx:0≤x∨n ∣ x
 ·simp only [if_pos hx]
  split<;>omega
 ·simp only [if_neg hx]
  split<;>omega
end Go.Proofs.YtiekmbmgpachpaaGreatDoor.eng
namespace Go.Proofs.YtiekmbmgpachpaaGreatDoor.eng
open Go.RowKit num mem seg q held ratA ratB ratC ratD ratE vars ratF prf natC natD natI sub32
section
variable {K : AV → Prop}
theorem Zbz (x n:Int) (_:-9223372036854775808≤x∧x≤9223372036854775807) (hn:1≤n∧n≤1073741824):Spec Tryz.prog Tab 25 [int x,int n] (int (x % n)):=by
 have hb:=ZnO (x:=x) hn.1
 have ht1:-n< x.tmod n∧x.tmod n< n:=⟨Int.lt_tmod_of_pos x (by omega),Int.tmod_lt_of_pos x (by omega)⟩
 refine Zd Tryz.func25 rfl rfl Tryz.ntmps25 rfl (by kernel_rfl) rfl rfl ?_
 refine ZqU (x.tmod n) (by omega) rfl ?_
 refine⟨fun e1=> ?_,fun e1=> ?_⟩
 ·have f9:x.tmod n< 0:=of_decide_eq_true e1
  refine Eq.trans (b:=int (IntKind.i64.wrap ((x.tmod n)+n))) ?_ rfl
  rw [← hb,if_pos f9,wrap64 _ (by omega) (by omega)]
 ·have f9:¬ (x.tmod n< 0):=of_decide_eq_false e1
  refine Eq.trans (b:=int (x.tmod n)) ?_ rfl
  rw [← hb,if_neg f9]
theorem Zp1 (l:List Int) (h:l= []) (n:Int):SpecV Tryz.prog Tab 80 [.val (.one (.ptr 1000 0)),int n] 85 [D.list (List.map stD l)] (int 0) [D.list (List.map stD l)]:=by
 refine fn_V 0 [] Tryz.func80 rfl rfl Tryz.ntmps80 rfl (by kernel_rfl) rfl rfl rfl ?_
 refine fork (fun e1=> ?_) (fun e1=> ?_)
 ·have f12:((List.map stD l).length:Int)=0:=Zba e1
  refine⟨fun _=> ?_,fun e=>absurd e (by decide)⟩
  refine⟨Eq.trans (b:=int 0) ?_ rfl,rfl,?_⟩
  rfl
  rfl
 ·have f12:¬ (((List.map stD l).length:Int)=0):=Zbb e1
  exfalso
  exact f12 (by rw [h];rfl)
theorem Zp0 (x:Int) (l m:List Int) (hm:m=x :: l) (n:Int) (hx:-9223372036854775808≤x∧x≤9223372036854775807) (hn:1≤n∧n≤1073741824):SpecV Tryz.prog Tab 80 [.val (.one (.ptr 1000 0)),int n] 85 [D.list (List.map stD m)] (int (x % n)) [D.list (List.map stD (m.drop 1))]:=by
 have hml:(List.map stD m).length=l.length+1:=by rw [hm];simp
 have hml2:m.length=l.length+1:=by rw [hm];simp
 refine fn_V 0 [] Tryz.func80 rfl rfl Tryz.ntmps80 rfl (by kernel_rfl) rfl rfl rfl ?_
 refine fork (fun e1=> ?_) (fun e1=> ?_)
 ·have f12:((List.map stD m).length:Int)=0:=Zba e1
  exfalso
  omega
 ·have f12:¬ (((List.map stD m).length:Int)=0):=Zbb e1
  refine⟨fun e2=> ?_,fun e2=> ?_⟩
  ·have f15:n< 1:=of_decide_eq_true e2
   exfalso
   omega
  ·have f15:¬ (n< 1):=of_decide_eq_false e2
   refine get_ex (l:=m) (i:=0) (by first|omega|exact Nat.mod_lt _ (by omega)) fun x20 hx20=> ?_
   have ex:x20=x:=by
    rw [hm] at hx20
    exact(Option.some.inj hx20).symm
   refine k_ix 0 [D.v (.int .i64 (x20))] (by first|rfl|omega|(rw [wrap64 _ (by omega) (by omega)];omega)|(rw [wrap64 _ (by omega) (by omega)];split<;>omega)) (Zm hx20) rfl ?_
   refine Zom 1 (List.map stD (m.drop 1)) (by first|omega|(simp;omega)|simp) (by first|rfl|omega|(rw [wrap64 _ (by omega) (by omega)];omega)|(rw [wrap64 _ (by omega) (by omega)];split<;>omega)) (ZeW fun _=>rfl) (List.map_drop.symm) ?_
   refine use (Zbz x20 n (by omega) (by omega)) rfl ?_
   refine⟨Eq.trans (b:=int (x20 % n)) ?_ rfl,rfl,?_⟩
   rw [ex]
   rfl
theorem Zfa (n:Int) (d:Nat) (hn:-256< n∧n< 256) (hd:1≤d∧d< 256):Spec Tryz.prog Tab 39 [int n,int (d:Int)] (rat (cn ((n:Rat) / (d:Rat)))):=by
 refine Zd Tryz.func39 rfl rfl Tryz.ntmps39 rfl (by kernel_rfl) rfl rfl ?_
 refine⟨Nat×Nat,fun (a,b)=> [(0,int n),(1,int (d:Int)),(4,.val (.one (.ptr 4 0))),(5,int (a:Int)),(6,int (b:Int))],
  fun (a,b)=> [(4,.var 27 [.d (.v (.bool z0.s)),.d (.v (.string z0.a)),.d (.v (.string z0.d))])],fun (a,b)=>Nat.gcd a b=Nat.gcd n.natAbs d∧a< 256∧b< 256∧(0< a∨0< b),fun (a,b)=>b,(n.natAbs,d),?_,⟨rfl,by omega,by omega,.inr (by omega)⟩,fun s hs=> ?_⟩
 ·constructor<;>(repeat' (first|exact rfl|exact True.intro|exact⟨_,_,rfl⟩|exact(by decide)|apply And.intro))
  all_goals first
   |exact congrArg (fun n:Int=>D.v (.int .i64 n)) (by rw [wrap64 _ (by omega) (by omega)];split<;>omega)
 obtain⟨a,b⟩:=s
 obtain⟨g1,g2,g3,g4⟩:=hs
 refine⟨fun e1=> ?_,fun e1=> ?_⟩
 ·have f13:(b:Int) >0:=of_decide_eq_true e1
  refine ZfW a b (by first|rfl|omega|(rw [wrap64 _ (by omega) (by omega)];omega)|(rw [wrap64 _ (by omega) (by omega)];split<;>omega)) (by first|rfl|omega|(rw [wrap64 _ (by omega) (by omega)];omega)|(rw [wrap64 _ (by omega) (by omega)];split<;>omega)) (by omega) ?_
  refine⟨by kernel_rfl,?_⟩
  refine⟨(b,a % b),⟨by rw [← g1,Nat.gcd_comm a b,Nat.gcd_comm b (a % b)];exact(Nat.gcd_rec b a).symm,g3,by have:=Nat.mod_lt a (show 0< b by omega);omega,.inl (by omega)⟩,by have:=Nat.mod_lt a (show 0< b by omega);simp only;omega,?_⟩
  constructor<;>(repeat' (first|exact rfl|exact True.intro|apply And.intro))
  all_goals first
   |exact congrArg (fun n:Int=>D.v (.int .i64 n)) (by rw [wrap64 _ (by omega) (by omega)];omega)
   |exact congrArg (fun n:Int=>D.v (.int .i64 n)) (by omega)
 ·have f13:¬ ((b:Int) >0):=of_decide_eq_false e1
  obtain rfl:b=0:=by omega
  rw [Nat.gcd_zero_right] at g1
  have ha:0< a:=by omega
  have hdn:a ∣ n.natAbs:=by rw [g1];exact Nat.gcd_dvd_left _ _
  have hdv:(a:Int) ∣ n:=Int.ofNat_dvd_left.2 hdn
  have hqa:(n / (a:Int)).natAbs=n.natAbs / a:=by rw [Int.natAbs_ediv_of_dvd hdv,Int.natAbs_natCast]
  have hq1:=Nat.div_le_self n.natAbs a
  have hq2:=Nat.div_le_self d a
  have hsg:decide (n / (a:Int)< 0)=decide (n< 0):=by
   refine decide_eq_decide.2 ⟨fun h=> ?_,fun h=>Int.ediv_neg_of_neg_of_pos h (by omega)⟩
   by_cases g:n< 0
   ·exact g
   ·exact absurd h (by have:=Int.ediv_nonneg (a:=n) (b:=(a:Int)) (by omega) (by omega);omega)
  refine Zoi (n / (a:Int)) (by omega) (by rw [Int.tdiv_eq_ediv_of_dvd hdv,wrap64 _ (by omega) (by omega)]) ?_
  refine Zoj d a (by first|rfl|omega|(rw [wrap64 _ (by omega) (by omega)];omega)|(rw [wrap64 _ (by omega) (by omega)];split<;>omega)) (by first|rfl|omega|(rw [wrap64 _ (by omega) (by omega)];omega)|(rw [wrap64 _ (by omega) (by omega)];split<;>omega)) (by omega) (by omega) ?_
  refine⟨by kernel_rfl,?_⟩
  refine Zih (n.natAbs / a) (by rw [wrap64 _ (by omega) (by omega),← hqa];split<;>omega) (by omega) ?_
  refine Zih (d / a) rfl (by omega) ?_
  refine Eq.trans (b:= .val (.agg [.d (.v (.bool (decide (n / (a:Int)< 0)))),.d (.v (.string (enc (n.natAbs / a)))),.d (.v (.string (enc (d / a))))])) ?_ rfl
  rw [ZpP n d (by omega),← g1,hsg]
  rfl
def denM (x:Int):Nat:=(([1,2,3,4,5,8]:List Nat)[(x % 6).toNat]?).getD 1
theorem Zhe (x:Int):1≤denM x∧denM x≤8:=by
 have h1:=Int.emod_nonneg x (show (6:Int)≠0 by decide)
 have h2:=Int.emod_lt_of_pos x (show (0:Int)< 6 by decide)
 have:x % 6=0∨x % 6=1∨x % 6=2∨x % 6=3∨x % 6=4∨x % 6=5:=by omega
 unfold denM
 rcases this with h|h|h|h|h|h<;>rw [h]<;>decide
theorem ZpH (x:Int):([stD 1,stD 2,stD 3,stD 4,stD 5,stD 8]:List (List D))[(x % 6).toNat]? =some (stD (denM x:Int)):=by
 have h1:=Int.emod_nonneg x (show (6:Int)≠0 by decide)
 have h2:=Int.emod_lt_of_pos x (show (0:Int)< 6 by decide)
 have:x % 6=0∨x % 6=1∨x % 6=2∨x % 6=3∨x % 6=4∨x % 6=5:=by omega
 unfold denM
 rcases this with h|h|h|h|h|h<;>rw [h]<;>rfl
def numM (x:Int):Int:=x.tdiv 6 % (16*(denM x:Int)+1) - 8*(denM x:Int)
theorem Zk0 (x:Int):-(8*(denM x:Int))≤numM x∧numM x≤8*(denM x:Int):=by
 have h:=Zhe x
 have h1:=Int.emod_nonneg (x.tdiv 6) (show 16*(denM x:Int)+1≠0 by omega)
 have h2:=Int.emod_lt_of_pos (x.tdiv 6) (show 0< 16*(denM x:Int)+1 by omega)
 unfold numM;omega
def ratM (x:Int):Rat:=(numM x:Rat) / (denM x:Rat)
theorem Zgl (x:Int) (hx:-9223372036854775808≤x∧x≤9223372036854775807):Spec Tryz.prog Tab 7 [int x] (rat (cn (ratM x))):=by
 have hd:=Zhe x
 have hm:=Zk0 x
 have ht0:(x.tdiv 6).natAbs=x.natAbs / 6:=by rw [Int.natAbs_tdiv];rfl
 refine Zd Tryz.func7 rfl rfl Tryz.ntmps7 rfl (by kernel_rfl) rfl rfl ?_
 refine use (Zbz x 6 hx (by omega)) rfl ?_
 refine k_ix ((x % 6).toNat) [D.v (.int .i64 ((denM x:Int)))] (by first|rfl|omega|(rw [wrap64 _ (by omega) (by omega)];omega)|(rw [wrap64 _ (by omega) (by omega)];split<;>omega)) (ZpH x) rfl ?_
 refine Zoi (x.tdiv 6) (by decide) (wrap64 _ (by omega) (by omega)) ?_
 have hw2:IntKind.i64.wrap ((IntKind.i64.wrap (16*(denM x:Int)))+1)=16*(denM x:Int)+1:=by rw [wrap64 (16*(denM x:Int)) (by omega) (by omega),wrap64 _ (by omega) (by omega)]
 have hm1:=Int.emod_nonneg (x.tdiv 6) (show 16*(denM x:Int)+1≠0 by omega)
 have hm2:=Int.emod_lt_of_pos (x.tdiv 6) (show 0< 16*(denM x:Int)+1 by omega)
 refine use (Zbz (x.tdiv 6) (IntKind.i64.wrap ((IntKind.i64.wrap (16*(denM x:Int)))+1)) (by omega) (by omega)) rfl ?_
 have hwn:IntKind.i64.wrap ((x.tdiv 6 % (IntKind.i64.wrap ((IntKind.i64.wrap (16*(denM x:Int)))+1))) - (IntKind.i64.wrap (8*(denM x:Int))))=numM x:=by unfold numM;rw [hw2,wrap64 (8*(denM x:Int)) (by omega) (by omega),wrap64 _ (by omega) (by omega)]
 have hof:=Zfa (numM x) (denM x) (by omega) (by omega)
 rw [show int (numM x)=int (IntKind.i64.wrap ((x.tdiv 6 % (IntKind.i64.wrap ((IntKind.i64.wrap (16*(denM x:Int)))+1))) - (IntKind.i64.wrap (8*(denM x:Int))))) from by rw [hwn]] at hof
 refine use hof rfl ?_
 refine Eq.trans (b:=rat (cn (ratM x))) ?_ rfl
 rfl
end
end Go.Proofs.YtiekmbmgpachpaaGreatDoor.eng
namespace Go.Proofs.YtiekmbmgpachpaaGreatDoor.eng
open Go.RowKit num mem seg q held ratA ratB ratC ratD ratE vars ratF prf natC natD natI sub32
section
variable {K : AV → Prop}
theorem ZiO (l:List Int) (n:Int) (hl:∀ x,x∈l→-9223372036854775808≤x∧x≤9223372036854775807) (hn:1≤n∧n≤1073741824):SpecV Tryz.prog Tab 80 [.val (.one (.ptr 1000 0)),int n] 85 [D.list (List.map stD l)] (int (nextV l n)) [D.list (List.map stD (nextL l n))]:=by
 cases l with
 |nil=>exact Zp1 [] rfl n
 |cons x l=>
  have h:=Zp0 x l (x :: l) rfl n (hl x List.mem_cons_self) hn
  rw [show nextV (x :: l) n=x % n from if_neg (by omega),show nextL (x :: l) n=l from if_neg (by omega)]
  exact h
def qtr (x:Int):Rat:=(x:Rat) / ((4:Nat):Rat)
theorem ZpZ (x y:Int) (hx:-256< x∧x< 256) (hy:-256< y∧y< 256):Spec Tryz.prog Tab 81 [int x,int y] (pair (cn (qtr x)) (cn (qtr y))):=by
 refine Zd Tryz.func81 rfl rfl Tryz.ntmps81 rfl (by kernel_rfl) rfl rfl ?_
 refine use (Zfa x 4 (by omega) (by decide)) rfl ?_
 refine use (Zfa y 4 (by omega) (by decide)) rfl ?_
 refine Eq.trans (b:=pair (cn (qtr x)) (cn (qtr y))) ?_ rfl
 rfl
theorem ZbA {K:AV→Prop} {x y:Int} (a b:Int) (hx:x=a) (hy:y=b) (ha:-256< a∧a< 256) (hb:-256< b∧b< 256) (k:K (pair (cn (qtr a)) (cn (qtr b)))):Ask 81 [int x,int y] K:=by subst hx hy;exact use (ZpZ x y ha hb) rfl k
def wM (l:List Int):Int:=1+nextV l 6
def hM (l:List Int):Int:=1+nextV (nextL l 6) 6
def l2M (l:List Int):List Int:=nextL (nextL l 6) 6
def l3M (l:List Int):List Int:=nextL (l2M l) 4
def cM (l:List Int):Int:=nextV (l2M l) 4
def vM (l:List Int):Int:=nextV (l3M l) (2*wM l+1) - wM l
def polyI (l:List Int):List (Int×Int):=
 if cM l=0 then [(-wM l,-hM l),(wM l,-hM l),(wM l,hM l),(-wM l,hM l)]
 else if cM l=1 then [(-wM l,-hM l),(wM l,-hM l),(vM l,hM l)]
 else if cM l=2 then [(-wM l - 1,-hM l - 1),(wM l,-hM l - 1),(wM l+1,-hM l),(wM l+1,hM l),(-wM l - 1,hM l)]
 else [(-wM l,0),(0,-hM l),(wM l,0),(0,hM l)]
def polyS (l:List Int):List Int:=if cM l=1 then nextL (l3M l) (2*wM l+1) else l3M l
def polyM (l:List Int):List (RV×RV):=(polyI l).map fun p=>(cn (qtr p.1),cn (qtr p.2))
theorem Zms (l:List Int):1≤wM l∧wM l≤6:=by have:=ZcV (l:=l) (n:=6) (by decide);unfold wM;omega
theorem Zpv (l:List Int):1≤hM l∧hM l≤6:=by have:=ZcV (l:=nextL l 6) (n:=6) (by decide);unfold hM;omega
theorem ZoI (l:List Int):-wM l≤vM l∧vM l≤wM l:=by have h:=Zms l;have:=ZcV (l:=l3M l) (n:=2*wM l+1) (by omega);unfold vM;omega
set_option maxHeartbeats 2000000 in
theorem Zqz (l:List Int) (hl:∀ x,x∈l→-9223372036854775808≤x∧x≤9223372036854775807):SpecV Tryz.prog Tab 38 [.val (.one (.ptr 1000 0))] 85 [D.list (List.map stD l)] (.val (.one (.d (.list (List.map rdv (polyM l)))))) [D.list (List.map stD (polyS l))]:=by
 have hwb:=Zms l
 have hhb:=Zpv l
 have hvb:=ZoI l
 have hw7:IntKind.i64.wrap (1+nextV l 6)=wM l:=by unfold wM at*;exact wrap64 _ (by omega) (by omega)
 have hw10:IntKind.i64.wrap (1+nextV (nextL l 6) 6)=hM l:=by unfold hM at*;exact wrap64 _ (by omega) (by omega)
 have hn7:IntKind.i64.wrap (0 - (IntKind.i64.wrap (1+nextV l 6)))=-wM l:=by rw [hw7,wrap64 _ (by omega) (by omega)];omega
 have hn10:IntKind.i64.wrap (0 - (IntKind.i64.wrap (1+nextV (nextL l 6) 6)))=-hM l:=by rw [hw10,wrap64 _ (by omega) (by omega)];omega
 have hp7:IntKind.i64.wrap (IntKind.i64.wrap (1+nextV l 6)+1)=wM l+1:=by rw [hw7,wrap64 _ (by omega) (by omega)]
 have hm7:IntKind.i64.wrap (IntKind.i64.wrap (0 - (IntKind.i64.wrap (1+nextV l 6))) - 1)=-wM l - 1:=by rw [hn7,wrap64 _ (by omega) (by omega)]
 have hm10:IntKind.i64.wrap (IntKind.i64.wrap (0 - (IntKind.i64.wrap (1+nextV (nextL l 6) 6))) - 1)=-hM l - 1:=by rw [hn10,wrap64 _ (by omega) (by omega)]
 refine fn_V 0 [800006,800009,800012,800047] Tryz.func38 rfl rfl Tryz.ntmps38 rfl (by kernel_rfl) rfl rfl rfl ?_
 refine⟨int (nextV l 6), [D.list (List.map stD (nextL l 6))],⟨⟨rfl,rfl⟩,ZiO l 6 hl (by omega)⟩,?_⟩
 refine⟨int (nextV (nextL l 6) 6), [D.list (List.map stD (nextL (nextL l 6) 6))],⟨⟨rfl,rfl⟩,ZiO (nextL l 6) 6 (fun x h=>hl x (ZaP h)) (by omega)⟩,?_⟩
 refine⟨int (nextV (nextL (nextL l 6) 6) 4), [D.list (List.map stD (nextL (nextL (nextL l 6) 6) 4))],⟨⟨rfl,rfl⟩,ZiO (nextL (nextL l 6) 6) 4 (fun x h=>hl x (ZaP (ZaP h))) (by omega)⟩,?_⟩
 refine⟨fun e1=> ?_,fun e1=> ?_⟩
 ·have f13:nextV (nextL (nextL l 6) 6) 4=0:=Zba e1
  have c13:cM l=0:=f13
  refine ZbA (-wM l) (-hM l) (by first|rfl|exact hw7|exact hw10|exact hn7|exact hn10|exact hp7|exact hm7|exact hm10|exact hv) (by first|rfl|exact hw7|exact hw10|exact hn7|exact hn10|exact hp7|exact hm7|exact hm10|exact hv) (by omega) (by omega) ?_
  refine ZbA (wM l) (-hM l) (by first|rfl|exact hw7|exact hw10|exact hn7|exact hn10|exact hp7|exact hm7|exact hm10|exact hv) (by first|rfl|exact hw7|exact hw10|exact hn7|exact hn10|exact hp7|exact hm7|exact hm10|exact hv) (by omega) (by omega) ?_
  refine ZbA (wM l) (hM l) (by first|rfl|exact hw7|exact hw10|exact hn7|exact hn10|exact hp7|exact hm7|exact hm10|exact hv) (by first|rfl|exact hw7|exact hw10|exact hn7|exact hn10|exact hp7|exact hm7|exact hm10|exact hv) (by omega) (by omega) ?_
  refine ZbA (-wM l) (hM l) (by first|rfl|exact hw7|exact hw10|exact hn7|exact hn10|exact hp7|exact hm7|exact hm10|exact hv) (by first|rfl|exact hw7|exact hw10|exact hn7|exact hn10|exact hp7|exact hm7|exact hm10|exact hv) (by omega) (by omega) ?_
  refine⟨Eq.trans (b:= .val (.one (.d (.list ([[D.v (.bool (cn (qtr (-wM l))).s),D.v (.string (cn (qtr (-wM l))).a),D.v (.string (cn (qtr (-wM l))).d),D.v (.bool (cn (qtr (-hM l))).s),D.v (.string (cn (qtr (-hM l))).a),D.v (.string (cn (qtr (-hM l))).d)], [D.v (.bool (cn (qtr (wM l))).s),D.v (.string (cn (qtr (wM l))).a),D.v (.string (cn (qtr (wM l))).d),D.v (.bool (cn (qtr (-hM l))).s),D.v (.string (cn (qtr (-hM l))).a),D.v (.string (cn (qtr (-hM l))).d)], [D.v (.bool (cn (qtr (wM l))).s),D.v (.string (cn (qtr (wM l))).a),D.v (.string (cn (qtr (wM l))).d),D.v (.bool (cn (qtr (hM l))).s),D.v (.string (cn (qtr (hM l))).a),D.v (.string (cn (qtr (hM l))).d)], [D.v (.bool (cn (qtr (-wM l))).s),D.v (.string (cn (qtr (-wM l))).a),D.v (.string (cn (qtr (-wM l))).d),D.v (.bool (cn (qtr (hM l))).s),D.v (.string (cn (qtr (hM l))).a),D.v (.string (cn (qtr (hM l))).d)]]))))) ?_ rfl,rfl,?_⟩
  unfold polyM polyI
  rw [if_pos c13]
  rfl
  rw [show polyS l=l3M l from if_neg (fun h=>by omega)]
  rfl
 ·have f13:¬ (nextV (nextL (nextL l 6) 6) 4=0):=Zbb e1
  have c13:¬ cM l=0:=f13
  refine⟨fun e2=> ?_,fun e2=> ?_⟩
  ·have f32:nextV (nextL (nextL l 6) 6) 4=1:=Zba e2
   have c32:cM l=1:=f32
   refine ZbA (-wM l) (-hM l) (by first|rfl|exact hw7|exact hw10|exact hn7|exact hn10|exact hp7|exact hm7|exact hm10|exact hv) (by first|rfl|exact hw7|exact hw10|exact hn7|exact hn10|exact hp7|exact hm7|exact hm10|exact hv) (by omega) (by omega) ?_
   refine ZbA (wM l) (-hM l) (by first|rfl|exact hw7|exact hw10|exact hn7|exact hn10|exact hp7|exact hm7|exact hm10|exact hv) (by first|rfl|exact hw7|exact hw10|exact hn7|exact hn10|exact hp7|exact hm7|exact hm10|exact hv) (by omega) (by omega) ?_
   have hw47:IntKind.i64.wrap ((IntKind.i64.wrap (2*(IntKind.i64.wrap (1+(nextV l 6)))))+1)=2*wM l+1:=by rw [hw7,wrap64 (2*wM l) (by omega) (by omega),wrap64 _ (by omega) (by omega)]
   have hnx:=ZiO (l3M l) (2*wM l+1) (fun x h=>hl x (ZaP (ZaP (ZaP h)))) (by omega)
   rw [← hw47] at hnx
   have hbd:=ZcV (l:=l3M l) (n:=2*wM l+1) (by omega)
   have hv:IntKind.i64.wrap (nextV (l3M l) (IntKind.i64.wrap ((IntKind.i64.wrap (2*(IntKind.i64.wrap (1+(nextV l 6)))))+1)) - (IntKind.i64.wrap (1+nextV l 6)))=vM l:=by rw [hw47,hw7];exact wrap64 _ (by omega) (by omega)
   refine⟨int (nextV (l3M l) (IntKind.i64.wrap ((IntKind.i64.wrap (2*(IntKind.i64.wrap (1+(nextV l 6)))))+1))), [D.list (List.map stD (nextL (l3M l) (IntKind.i64.wrap ((IntKind.i64.wrap (2*(IntKind.i64.wrap (1+(nextV l 6)))))+1))))],⟨⟨rfl,rfl⟩,hnx⟩,?_⟩
   refine ZbA (vM l) (hM l) (by first|rfl|exact hw7|exact hw10|exact hn7|exact hn10|exact hp7|exact hm7|exact hm10|exact hv) (by first|rfl|exact hw7|exact hw10|exact hn7|exact hn10|exact hp7|exact hm7|exact hm10|exact hv) (by omega) (by omega) ?_
   refine⟨Eq.trans (b:= .val (.one (.d (.list ([[D.v (.bool (cn (qtr (-wM l))).s),D.v (.string (cn (qtr (-wM l))).a),D.v (.string (cn (qtr (-wM l))).d),D.v (.bool (cn (qtr (-hM l))).s),D.v (.string (cn (qtr (-hM l))).a),D.v (.string (cn (qtr (-hM l))).d)], [D.v (.bool (cn (qtr (wM l))).s),D.v (.string (cn (qtr (wM l))).a),D.v (.string (cn (qtr (wM l))).d),D.v (.bool (cn (qtr (-hM l))).s),D.v (.string (cn (qtr (-hM l))).a),D.v (.string (cn (qtr (-hM l))).d)], [D.v (.bool (cn (qtr (vM l))).s),D.v (.string (cn (qtr (vM l))).a),D.v (.string (cn (qtr (vM l))).d),D.v (.bool (cn (qtr (hM l))).s),D.v (.string (cn (qtr (hM l))).a),D.v (.string (cn (qtr (hM l))).d)]]))))) ?_ rfl,rfl,?_⟩
   unfold polyM polyI
   rw [if_neg c13,if_pos c32]
   rfl
   rw [show polyS l=nextL (l3M l) (2*wM l+1) from if_pos c32,← hw47]
   rfl
  ·have f32:¬ (nextV (nextL (nextL l 6) 6) 4=1):=Zbb e2
   have c32:¬ cM l=1:=f32
   refine⟨fun e3=> ?_,fun e3=> ?_⟩
   ·have f53:nextV (nextL (nextL l 6) 6) 4=2:=Zba e3
    have c53:cM l=2:=f53
    refine ZbA (-wM l - 1) (-hM l - 1) (by first|rfl|exact hw7|exact hw10|exact hn7|exact hn10|exact hp7|exact hm7|exact hm10|exact hv) (by first|rfl|exact hw7|exact hw10|exact hn7|exact hn10|exact hp7|exact hm7|exact hm10|exact hv) (by omega) (by omega) ?_
    refine ZbA (wM l) (-hM l - 1) (by first|rfl|exact hw7|exact hw10|exact hn7|exact hn10|exact hp7|exact hm7|exact hm10|exact hv) (by first|rfl|exact hw7|exact hw10|exact hn7|exact hn10|exact hp7|exact hm7|exact hm10|exact hv) (by omega) (by omega) ?_
    refine ZbA (wM l+1) (-hM l) (by first|rfl|exact hw7|exact hw10|exact hn7|exact hn10|exact hp7|exact hm7|exact hm10|exact hv) (by first|rfl|exact hw7|exact hw10|exact hn7|exact hn10|exact hp7|exact hm7|exact hm10|exact hv) (by omega) (by omega) ?_
    refine ZbA (wM l+1) (hM l) (by first|rfl|exact hw7|exact hw10|exact hn7|exact hn10|exact hp7|exact hm7|exact hm10|exact hv) (by first|rfl|exact hw7|exact hw10|exact hn7|exact hn10|exact hp7|exact hm7|exact hm10|exact hv) (by omega) (by omega) ?_
    refine ZbA (-wM l - 1) (hM l) (by first|rfl|exact hw7|exact hw10|exact hn7|exact hn10|exact hp7|exact hm7|exact hm10|exact hv) (by first|rfl|exact hw7|exact hw10|exact hn7|exact hn10|exact hp7|exact hm7|exact hm10|exact hv) (by omega) (by omega) ?_
    refine⟨Eq.trans (b:= .val (.one (.d (.list ([[D.v (.bool (cn (qtr (-wM l - 1))).s),D.v (.string (cn (qtr (-wM l - 1))).a),D.v (.string (cn (qtr (-wM l - 1))).d),D.v (.bool (cn (qtr (-hM l - 1))).s),D.v (.string (cn (qtr (-hM l - 1))).a),D.v (.string (cn (qtr (-hM l - 1))).d)], [D.v (.bool (cn (qtr (wM l))).s),D.v (.string (cn (qtr (wM l))).a),D.v (.string (cn (qtr (wM l))).d),D.v (.bool (cn (qtr (-hM l - 1))).s),D.v (.string (cn (qtr (-hM l - 1))).a),D.v (.string (cn (qtr (-hM l - 1))).d)], [D.v (.bool (cn (qtr (wM l+1))).s),D.v (.string (cn (qtr (wM l+1))).a),D.v (.string (cn (qtr (wM l+1))).d),D.v (.bool (cn (qtr (-hM l))).s),D.v (.string (cn (qtr (-hM l))).a),D.v (.string (cn (qtr (-hM l))).d)], [D.v (.bool (cn (qtr (wM l+1))).s),D.v (.string (cn (qtr (wM l+1))).a),D.v (.string (cn (qtr (wM l+1))).d),D.v (.bool (cn (qtr (hM l))).s),D.v (.string (cn (qtr (hM l))).a),D.v (.string (cn (qtr (hM l))).d)], [D.v (.bool (cn (qtr (-wM l - 1))).s),D.v (.string (cn (qtr (-wM l - 1))).a),D.v (.string (cn (qtr (-wM l - 1))).d),D.v (.bool (cn (qtr (hM l))).s),D.v (.string (cn (qtr (hM l))).a),D.v (.string (cn (qtr (hM l))).d)]]))))) ?_ rfl,rfl,?_⟩
    unfold polyM polyI
    rw [if_neg c13,if_neg c32,if_pos c53]
    rfl
    rw [show polyS l=l3M l from if_neg c32]
    rfl
   ·have f53:¬ (nextV (nextL (nextL l 6) 6) 4=2):=Zbb e3
    have c53:¬ cM l=2:=f53
    refine ZbA (-wM l) (0) (by first|rfl|exact hw7|exact hw10|exact hn7|exact hn10|exact hp7|exact hm7|exact hm10|exact hv) (by first|rfl|exact hw7|exact hw10|exact hn7|exact hn10|exact hp7|exact hm7|exact hm10|exact hv) (by omega) (by omega) ?_
    refine ZbA (0) (-hM l) (by first|rfl|exact hw7|exact hw10|exact hn7|exact hn10|exact hp7|exact hm7|exact hm10|exact hv) (by first|rfl|exact hw7|exact hw10|exact hn7|exact hn10|exact hp7|exact hm7|exact hm10|exact hv) (by omega) (by omega) ?_
    refine ZbA (wM l) (0) (by first|rfl|exact hw7|exact hw10|exact hn7|exact hn10|exact hp7|exact hm7|exact hm10|exact hv) (by first|rfl|exact hw7|exact hw10|exact hn7|exact hn10|exact hp7|exact hm7|exact hm10|exact hv) (by omega) (by omega) ?_
    refine ZbA (0) (hM l) (by first|rfl|exact hw7|exact hw10|exact hn7|exact hn10|exact hp7|exact hm7|exact hm10|exact hv) (by first|rfl|exact hw7|exact hw10|exact hn7|exact hn10|exact hp7|exact hm7|exact hm10|exact hv) (by omega) (by omega) ?_
    refine⟨Eq.trans (b:= .val (.one (.d (.list ([[D.v (.bool (cn (qtr (-wM l))).s),D.v (.string (cn (qtr (-wM l))).a),D.v (.string (cn (qtr (-wM l))).d),D.v (.bool (cn (qtr (0))).s),D.v (.string (cn (qtr (0))).a),D.v (.string (cn (qtr (0))).d)], [D.v (.bool (cn (qtr (0))).s),D.v (.string (cn (qtr (0))).a),D.v (.string (cn (qtr (0))).d),D.v (.bool (cn (qtr (-hM l))).s),D.v (.string (cn (qtr (-hM l))).a),D.v (.string (cn (qtr (-hM l))).d)], [D.v (.bool (cn (qtr (wM l))).s),D.v (.string (cn (qtr (wM l))).a),D.v (.string (cn (qtr (wM l))).d),D.v (.bool (cn (qtr (0))).s),D.v (.string (cn (qtr (0))).a),D.v (.string (cn (qtr (0))).d)], [D.v (.bool (cn (qtr (0))).s),D.v (.string (cn (qtr (0))).a),D.v (.string (cn (qtr (0))).d),D.v (.bool (cn (qtr (hM l))).s),D.v (.string (cn (qtr (hM l))).a),D.v (.string (cn (qtr (hM l))).d)]]))))) ?_ rfl,rfl,?_⟩
    unfold polyM polyI
    rw [if_neg c13,if_neg c32,if_neg c53]
    rfl
    rw [show polyS l=l3M l from if_neg c32]
    rfl
theorem Zmo (l:List Int) (hl:∀ x,x∈l→-9223372036854775808≤x∧x≤9223372036854775807):Spec Tryz.prog Tab 6 [.val (.one (.d (.list (List.map stD l))))] (.val (.one (.d (.list (List.map rdv (polyM l)))))):=by
 refine Zeo [800006] Tryz.func6 rfl rfl Tryz.ntmps6 rfl (by kernel_rfl) rfl rfl ?_
 refine⟨.val (.one (.d (.list (List.map rdv (polyM l))))), [D.list (List.map stD (polyS l))],⟨⟨rfl,rfl⟩,Zqz l hl⟩,?_⟩
 refine Eq.trans (b:= .val (.one (.d (.list (List.map rdv (polyM l)))))) ?_ rfl
 rfl
end
end Go.Proofs.YtiekmbmgpachpaaGreatDoor.eng
namespace Go.Proofs.YtiekmbmgpachpaaGreatDoor.eng
open Go.RowKit num mem seg q held ratA ratB ratC ratD ratE vars ratF trq
def oriI (a b c:Int×Int):Int:=(b.1 - a.1)*(c.2 - a.2) - (b.2 - a.2)*(c.1 - a.1)
theorem ZeM (a b:Int):qtr a - qtr b=qtr (a - b):=by
 unfold qtr
 rw [Rat.intCast_sub,Rat.div_def,Rat.div_def,Rat.div_def];grind
theorem ZkH (a b:Int):qtr a*qtr b=((a*b:Int):Rat)*(((1:Int):Rat) / ((16:Int):Rat)):=by
 unfold qtr
 have h:(((4:Nat):Rat))⁻¹*(((4:Nat):Rat))⁻¹=((1:Int):Rat) / ((16:Int):Rat):=by decide+kernel
 rw [Rat.intCast_mul,Rat.div_def,Rat.div_def,← h];grind
theorem Zo9 {a b c:Int×Int} (h:0< oriI a b c):0< poly.ori (qtr a.1,qtr a.2) (qtr b.1,qtr b.2) (qtr c.1,qtr c.2):=by
 have e:poly.ori (qtr a.1,qtr a.2) (qtr b.1,qtr b.2) (qtr c.1,qtr c.2)=((oriI a b c:Int):Rat)*(((1:Int):Rat) / ((16:Int):Rat)):=by
  unfold poly.ori oriI
  simp only
  rw [ZeM,ZeM,ZeM,ZeM,ZkH,ZkH,Rat.intCast_sub];grind
 rw [e]
 exact Rat.mul_pos (Rat.intCast_pos.2 h) (by decide+kernel)
def EdgesI (P:List (Int×Int)):Prop:=∀ i k,i< P.length→2≤k→k< P.length→0< oriI ((P[i]?).getD (0,0)) ((P[(i+1) % P.length]?).getD (0,0)) ((P[(i+k) % P.length]?).getD (0,0))
theorem Zdh (l:List Int) {i:Nat} (hi:i< (polyI l).length):pts (polyM l) i=(qtr ((polyI l)[i]?.getD (0,0)).1,qtr ((polyI l)[i]?.getD (0,0)).2):=by
 unfold pts polyM
 rw [List.getElem?_map,List.getElem?_eq_getElem hi]
 simp only [Option.map_some,Option.getD_some,cn_q]
theorem ZfH (l:List Int):3≤(polyI l).length∧(polyI l).length≤5:=by
 unfold polyI
 (repeat' split)<;>simp
theorem ZfG (l:List Int):(polyM l).length=(polyI l).length:=List.length_map ..
theorem ZgT (l:List Int):EdgesI (polyI l):=by
 have hw:=Zms l
 have hh:=Zpv l
 have hv:=ZoI l
 unfold polyI
 generalize wM l=w at*
 generalize hM l=h at*
 generalize vM l=v at*
 have cw:w=1∨w=2∨w=3∨w=4∨w=5∨w=6:=by omega
 have ch:h=1∨h=2∨h=3∨h=4∨h=5∨h=6:=by omega
 (repeat' split)
 all_goals
  intro i k hi h2 hk
  simp only [List.length_cons,List.length_nil] at hi hk ⊢
  have ci:i=0∨i=1∨i=2∨i=3∨i=4:=by omega
  have ck:k=2∨k=3∨k=4:=by omega
  rcases ci with rfl|rfl|rfl|rfl|rfl<;>rcases ck with rfl|rfl|rfl<;>first
   |(exfalso;omega)
   |(simp [oriI]
     rcases ch with rfl|rfl|rfl|rfl|rfl|rfl<;>omega)
theorem Zec (l:List Int):convE 64 (polyM l)=0:=by
 have hn:=ZfH l
 have he:=ZgT l
 rw [Zcj,ZfG]
 refine⟨by omega,by omega,fun i k hi h2 hk=> ?_⟩
 rw [Zdh l hi,Zdh l (Nat.mod_lt _ (by omega)),Zdh l (Nat.mod_lt _ (by omega))]
 exact Zo9 (he i k hi h2 hk)
theorem Zm6 (l:List Int):∀ p,p∈polyI l→(-8≤p.1∧p.1≤8)∧-8≤p.2∧p.2≤8:=by
 have hw:=Zms l
 have hh:=Zpv l
 have hv:=ZoI l
 unfold polyI
 generalize wM l=w at*
 generalize hM l=h at*
 generalize vM l=v at*
 intro p hp
 (repeat' split at hp)<;>simp only [List.mem_cons,List.not_mem_nil,or_false] at hp
 ·rcases hp with rfl|rfl|rfl|rfl<;>simp only<;>omega
 ·rcases hp with rfl|rfl|rfl<;>simp only<;>omega
 ·rcases hp with rfl|rfl|rfl|rfl|rfl<;>simp only<;>omega
 ·rcases hp with rfl|rfl|rfl|rfl<;>simp only<;>omega
theorem Zea {a:Int} (h:-8≤a∧a≤8):(-2≤qtr a∧qtr a≤2)∧qs (qtr a)≤100:=by
 have e:qtr a=(a:Rat)*(1 / 4):=by unfold qtr;rw [Rat.div_def,show (((4:Nat):Rat))⁻¹=1 / 4 from by decide+kernel]
 have h1:((-8:Int):Rat)≤(a:Rat):=Rat.intCast_le_intCast.2 h.1
 have h2:(a:Rat)≤((8:Int):Rat):=Rat.intCast_le_intCast.2 h.2
 have e1:((-8:Int):Rat)=-8:=by decide+kernel
 have e2:((8:Int):Rat)=8:=rfl
 have k1:=Zam (n:=a) (by omega) (by omega)
 have k2:qs ((4:Nat):Rat)≤8:=by decide+kernel
 have k3:=Zbg (a:Rat) ((4:Nat):Rat)
 refine⟨?_,by unfold qtr;omega⟩
 rw [e]
 rw [e1] at h1
 rw [e2] at h2
 constructor<;>grind
theorem Zdk {l:List Int} {p:RV×RV} (h:p∈polyM l):∃ a b:Int,(-8≤a∧a≤8)∧(-8≤b∧b≤8)∧p=(cn (qtr a),cn (qtr b)):=by
 obtain⟨c,hc,rfl⟩:=List.mem_map.1 h
 obtain⟨h1,h2⟩:=Zm6 l c hc
 exact⟨c.1,c.2,h1,h2,rfl⟩
theorem Zdj (l:List Int):∀ p,p∈polyM l→p.1.z≤1048576∧p.2.z≤1048576:=by
 intro p hp
 obtain⟨a,b,ha,hb,rfl⟩:=Zdk hp
 have:=(Zea ha).2;have:=(Zea hb).2
 exact⟨by show (cn _).z≤_;rw [cn_z];omega,by show (cn _).z≤_;rw [cn_z];omega⟩
theorem Zm5 (l:List Int) (i:Nat):(-2≤(ptAt (polyM l) i).1.q∧(ptAt (polyM l) i).1.q≤2)∧-2≤(ptAt (polyM l) i).2.q∧(ptAt (polyM l) i).2.q≤2:=by
 unfold ptAt
 cases h:(polyM l)[i]? with
 |none=>
  simp only [Option.getD_none,z0q]
  exact⟨⟨by decide+kernel,by decide+kernel⟩,by decide+kernel,by decide+kernel⟩
 |some p=>
  obtain⟨a,b,ha,hb,rfl⟩:=Zdk (List.mem_of_getElem? h)
  simp only [Option.getD_some,cn_q]
  exact⟨(Zea ha).1,(Zea hb).1⟩
theorem Zmt {c s:Rat×Rat} (hc:sle c.1 c.2) (hs:sle s.1 s.2) (c1:-1≤c.1) (c2:c.2≤1) (s1:-1≤s.1) (s2:s.2≤1) {p:RV×RV} (hx:-2≤p.1.q∧p.1.q≤2) (hy:-2≤p.2.q∧p.2.q≤2):inS (-4,4) (uAt c s p)∧inS (-4,4) (vAt c s p):=by
 have a1:=ZeU (m:=2) c1 hc c2 hx
 have a2:=ZeU (m:=2) s1 hs s2 hy
 have a3:=ZeU (m:=2) s1 hs s2 hx
 have a4:=ZeU (m:=2) c1 hc c2 hy
 have b1:=ZcJ (a:=p.1.q) hc;have b2:=ZcJ (a:=p.2.q) hs;have b3:=ZcJ (a:=p.1.q) hs;have b4:=ZcJ (a:=p.2.q) hc
 unfold inS uAt vAt
 simp only
 constructor<;>constructor<;>grind
theorem ZjU (l:List Int) {lo hi:Rat} (h:lo≤hi) (i:Nat):inS (-4,4) (uF (polyM l) (cn lo) (cn hi) i)∧inS (-4,4) (vF (polyM l) (cn lo) (cn hi) i):=by
 obtain⟨b1,b2⟩:=Zm5 l i
 have e1:csT (cn lo) (cn hi)=cs3 lo hi:=by unfold csT;rw [ZA h,ZB h]
 have e2:snT (cn lo) (cn hi)=sn3 lo hi:=by unfold snT;rw [ZA h,ZB h]
 unfold uF vF
 rw [e1,e2]
 exact Zmt (Rat.le_trans (ZcK lo hi).1 (ZcK lo hi).2) (Rat.le_trans (ZcH lo hi).1 (ZcH lo hi).2) (Zoy h).1 (Zoy h).2 (Zn2 h).1 (Zn2 h).2 b1 b2
theorem ZnV (P:List (RV×RV)) {lo hi lo' hi':Rat} (h1:lo≤lo') (h2:lo'≤hi') (h3:hi'≤hi) (i:Nat):inS (uF P (cn lo) (cn hi) i) (uF P (cn lo') (cn hi') i)∧inS (vF P (cn lo) (cn hi) i) (vF P (cn lo') (cn hi') i):=by
 have h:=Rat.le_trans h1 (Rat.le_trans h2 h3)
 have e1:∀ {a b:Rat},a≤b→csT (cn a) (cn b)=cs3 a b:=fun g=>by unfold csT;rw [ZA g,ZB g]
 have e2:∀ {a b:Rat},a≤b→snT (cn a) (cn b)=sn3 a b:=fun g=>by unfold snT;rw [ZA g,ZB g]
 unfold uF vF
 rw [e1 h,e2 h,e1 h2,e2 h2]
 have k1:=ZpI h1 h2 h3
 have k2:=ZoW h1 h2 h3
 have k3:sle (cs3 lo' hi').1 (cs3 lo' hi').2:=Rat.le_trans (ZcK lo' hi').1 (ZcK lo' hi').2
 have k4:sle (sn3 lo' hi').1 (sn3 lo' hi').2:=Rat.le_trans (ZcH lo' hi').1 (ZcH lo' hi').2
 exact⟨ZoN k1 k2 k3 k4 _,ZoJ k1 k2 k3 k4 _⟩
end Go.Proofs.YtiekmbmgpachpaaGreatDoor.eng
namespace Go.Proofs.YtiekmbmgpachpaaGreatDoor.eng
open Go.RowKit num mem seg q held ratA ratB ratC ratD ratE vars ratF prf natC natD natI sub32 trq
section
variable {K : AV → Prop}
def hpQ (p q:Rat) (k:Int):Rat:=p+(((k % 9:Int):Rat) / ((8:Int):Rat))*(q - p)
theorem Zrc {p q:Rat} (h:p≤q) (k:Int):p≤hpQ p q k∧hpQ p q k≤q:=by
 have h1:=Int.emod_nonneg k (show (9:Int)≠0 by decide)
 have h2:=Int.emod_lt_of_pos k (show (0:Int)< 9 by decide)
 have e8:((8:Int):Rat)=8:=rfl
 have a1:(0:Rat)≤((k % 9:Int):Rat):=by have:=Rat.intCast_le_intCast.2 h1;simpa using this
 have a2:((k % 9:Int):Rat)≤8:=by have:=Rat.intCast_le_intCast.2 (show k % 9≤8 by omega);exact this
 have f0:((k % 9:Int):Rat) / 8*8=((k % 9:Int):Rat):=Rat.div_mul_cancel (by decide+kernel)
 have b1:0≤((k % 9:Int):Rat) / 8:=by grind
 have b2:((k % 9:Int):Rat) / 8≤1:=by grind
 have c1:=Rat.mul_nonneg b1 (show 0≤q - p by grind)
 have c2:=Rat.mul_nonneg (show 0≤1 - ((k % 9:Int):Rat) / 8 by grind) (show 0≤q - p by grind)
 unfold hpQ
 rw [e8]
 constructor<;>grind
theorem ZbS (p q:Rat) (k:Int) (hp:qs p≤1048576) (hq:qs q≤1048576) (hk:-9223372036854775808≤k∧k≤9223372036854775807):Spec Tryz.prog Tab 12 [pair (cn p) (cn q),int k] (rat (cn (hpQ p q k))):=by
 refine Zd Tryz.func12 rfl rfl Tryz.ntmps12 rfl (by kernel_rfl) rfl rfl ?_
 refine use (Zbz k 9 hk (by omega)) rfl ?_
 have hk1:=Int.emod_nonneg k (show (9:Int)≠0 by decide)
 have hk2:=Int.emod_lt_of_pos k (show (0:Int)< 9 by decide)
 refine Zif (k % 9) 8 (by omega) (by omega) (by omega) (by omega) (by decide+kernel) fun q10 h10 z10=> ?_
 simp only [cn_z] at z10
 refine ZdS (x:=cn q) (y:=cn p) (by simp only [cn_z];omega) (by simp only [cn_z];omega) fun q20 h20 z20=> ?_
 simp only [cn_z] at z20
 simp only [cn_q] at h20
 refine ZaA (x:=cn q10) (y:=cn q20) (by simp only [cn_z];omega) (by simp only [cn_z];omega) fun q21 h21 z21=> ?_
 simp only [cn_z] at z21
 simp only [cn_q] at h21
 refine ZbB (x:=cn p) (y:=cn q21) (by simp only [cn_z];omega) (by simp only [cn_z];omega) fun q22 h22 z22=> ?_
 simp only [cn_z] at z22
 simp only [cn_q] at h22
 refine⟨by kernel_rfl,?_⟩
 refine Eq.trans (b:=rat (cn q22)) ?_ rfl
 subst_vars;rfl
end
end Go.Proofs.YtiekmbmgpachpaaGreatDoor.eng
namespace Go.Proofs.YtiekmbmgpachpaaGreatDoor.eng
open Go.RowKit num mem seg q held ratA ratB ratC ratD ratE vars ratF prf natC natD natI sub32 trq
section
variable {K : AV → Prop}
theorem bgR:∃ R:List (RV×RV),R.length=2∧Spec Tryz.prog Tab 36 [.val (.one (.d (.list (List.map rdc ([-1,0,1]:List Rat)))))] (.tup [.one (.d (.list (List.map rdv R))),.one (.d (.v (.int .i64 (0))))]):=⟨RR 2,rfl,ZgJ⟩
theorem bgA:areaQ (cvl (sqL 0 0 2))=((4:Int):Rat):=by rw [sq2.1];rfl
theorem bgF:frE 4607182418800017408=0∧frA 4607182418800017408=cn (frLo 4607182418800017408)∧frB 4607182418800017408=cn (frHi 4607182418800017408):=ZlH (by decide)
theorem bgH:(frLo 4607182418800017408≤1∧1≤frHi 4607182418800017408)∧frHi 4607182418800017408< 2∧qs (frLo 4607182418800017408)≤1000∧qs (frHi 4607182418800017408)≤1000:=by decide+kernel
theorem Zc2 (x y:Int) (hx:-100≤x∧x≤100) (hy:-100≤y∧y≤100):Spec Tryz.prog Tab 34 [int x,int y] (pair (cn (x:Rat)) (cn (y:Rat))):=by
 refine Zd Tryz.func34 rfl rfl Tryz.ntmps34 rfl (by kernel_rfl) rfl rfl ?_
 refine k_of (x) (by omega) (by omega) fun q6 h6 z6=> ?_
 simp only [cn_z] at z6
 refine k_of (y) (by omega) (by omega) fun q8 h8 z8=> ?_
 simp only [cn_z] at z8
 refine Eq.trans (b:=pair (cn q6) (cn q8)) ?_ rfl
 subst_vars;rfl
set_option maxHeartbeats 4000000 in
theorem Zf3  :Spec Tryz.prog Tab 5 [] (bool true):=by
 refine Zd Tryz.func5 rfl rfl Tryz.ntmps5 rfl (by kernel_rfl) rfl rfl ?_
 refine use (Zc2 0 0 (by decide) (by decide)) rfl ?_
 refine use (Zc2 2 0 (by decide) (by decide)) rfl ?_
 refine use (Zc2 2 2 (by decide) (by decide)) rfl ?_
 refine use (Zc2 0 2 (by decide) (by decide)) rfl ?_
 refine Zq8 4607182418800017408 rfl (by decide) fun x19 y19 n19 hn19 hx19 hy19=> ?_
 obtain⟨bf1,bf2,bf3⟩:=bgF
 obtain⟨⟨bh1,bh2⟩,bh3,bh4,bh5⟩:=bgH
 obtain rfl:x19=cn (frLo 4607182418800017408):=hx19.trans bf2
 obtain rfl:y19=cn (frHi 4607182418800017408):=hy19.trans bf3
 obtain rfl:n19=0:=hn19.trans bf1
 refine k_of (-1) (by omega) (by omega) fun q23 h23 z23=> ?_
 simp only [cn_z] at z23
 refine k_of (0) (by omega) (by omega) fun q24 h24 z24=> ?_
 simp only [cn_z] at z24
 refine k_of (1) (by omega) (by omega) fun q25 h25 z25=> ?_
 simp only [cn_z] at z25
 obtain rfl:q23=(-1:Rat):=h23.trans (by decide+kernel)
 obtain rfl:q24=(0:Rat):=h24.trans (by decide+kernel)
 obtain rfl:q25=(1:Rat):=h25.trans (by decide+kernel)
 obtain⟨R2,hR2,hR3⟩:=bgR
 refine use hR3 rfl ?_
 have hR4:(List.map rdv R2).length=2:=by rw [List.length_map,hR2]
 refine Zg1 (l:=cvl (sqL 0 0 2)) (Zrq (by decide+kernel)) (by decide) fun p q r u hp hq hr hu=> ?_
 have ep:p=(0:Rat):=hp.trans (by simp only [bx1,cvl,sqL,List.map,xsQ,cn_q];decide+kernel)
 have eq:q=(0:Rat):=hq.trans (by simp only [bx2,cvl,sqL,List.map,ysQ,cn_q];decide+kernel)
 have er:r=(2:Rat):=hr.trans (by simp only [bx3,cvl,sqL,List.map,xsQ,cn_q];decide+kernel)
 have eu:u=(2:Rat):=hu.trans (by simp only [bx4,cvl,sqL,List.map,ysQ,cn_q];decide+kernel)
 subst ep
 subst eq
 subst er
 subst eu
 have hgr:=Zim (cn 0) (cn 0) (cn 2) (cn 2) (by rw [cn_z];exact(by decide+kernel)) (by rw [cn_z];exact(by decide+kernel)) (by rw [cn_z];exact(by decide+kernel)) (by rw [cn_z];exact(by decide+kernel))
 have hgn:gridR (cn 0) (cn 0) (cn 2) (cn 2)=((cellsL (ivl (c0 0) (c1 2)) (ivl (c0 0) (c1 2))),0):=by
  have h:=Zej (x:=cn 0) (y:=cn 0) (z:=cn 2) (t:=cn 2) (by simp only [cn_q];decide+kernel) (by simp only [cn_q];decide+kernel) (by simp only [cn_q];decide+kernel) (by simp only [cn_q];decide+kernel) (by simp only [cn_q];decide+kernel) (by simp only [cn_q];decide+kernel)
  simpa only [cn_q] using h
 rw [hgn] at hgr
 have hcl:(CL (cellsL (ivl (c0 0) (c1 2)) (ivl (c0 0) (c1 2)))).length=16:=by unfold CL;rw [List.length_map];decide+kernel
 obtain⟨G2,hG2⟩:∃ G,G=(cellsL (ivl (c0 0) (c1 2)) (ivl (c0 0) (c1 2))):=⟨_,rfl⟩
 rw [← hG2] at hgr hcl
 refine use hgr rfl ?_
 refine k_of (1) (by omega) (by omega) fun q40 h40 z40=> ?_
 simp only [cn_z] at z40
 refine ZfU (x:=cn (frLo 4607182418800017408)) (y:=cn (frHi 4607182418800017408)) (z:=cn q40) (by simp only [cn_z];omega) (by simp only [cn_z];omega) (by simp only [cn_z];omega) (fun b41 hk_41_1=> ?_)
 try simp only [cn_q] at hk_41_1
 refine fork (fun e1=> ?_) (fun e1=> ?_)
 ·have f43:hasQ (slo (cn (frLo 4607182418800017408)) (cn (frHi 4607182418800017408))) (shi (cn (frLo 4607182418800017408)) (cn (frHi 4607182418800017408))) q40=true:=hk_41_1.symm.trans e1
  refine k_of (2) (by omega) (by omega) fun q45 h45 z45=> ?_
  simp only [cn_z] at z45
  refine ZfU (x:=cn (frLo 4607182418800017408)) (y:=cn (frHi 4607182418800017408)) (z:=cn q45) (by simp only [cn_z];omega) (by simp only [cn_z];omega) (by simp only [cn_z];omega) (fun b46 hk_46_1=> ?_)
  try simp only [cn_q] at hk_46_1
  refine fork (fun e2=> ?_) (fun e2=> ?_)
  ·have f49:¬ (hasQ (slo (cn (frLo 4607182418800017408)) (cn (frHi 4607182418800017408))) (shi (cn (frLo 4607182418800017408)) (cn (frHi 4607182418800017408))) q45=true):=fun hh=>absurd (hh.symm.trans (hk_46_1.symm.trans (ZrR e2))) (by decide)
   refine fork (fun e3=> ?_) (fun e3=> ?_)
   ·have f58:((List.map rdv R2).length:Int)=2:=Zba e3
    refine fork (fun e4=> ?_) (fun e4=> ?_)
    ·have f67:((CL G2).length:Int)=16:=Zba e4
     refine Zg2 (l:=cvl (sqL 0 0 2)) (Zrq (by decide+kernel)) (by decide) fun q69 hq69=> ?_
     refine k_of (4) (by omega) (by omega) fun q70 h70 z70=> ?_
     simp only [cn_z] at z70
     refine Zdr (by rw [hq69,bgA,h70]) ?_
     refine⟨by kernel_rfl,?_⟩
     refine Eq.trans (b:=bool true) ?_ rfl
     rfl
    ·have f67:¬ (((CL G2).length:Int)=16):=Zbb e4
     exfalso
     omega
   ·have f58:¬ (((List.map rdv R2).length:Int)=2):=Zbb e3
    exfalso
    omega
  ·have f49:¬ (¬ (hasQ (slo (cn (frLo 4607182418800017408)) (cn (frHi 4607182418800017408))) (shi (cn (frLo 4607182418800017408)) (cn (frHi 4607182418800017408))) q45=true)):=fun hh=>hh (hk_46_1.symm.trans (ZrS e2))
   exfalso
   exact f49 (fun h=>by rw [ZA (Rat.le_trans bh1 bh2),ZB (Rat.le_trans bh1 bh2),h45] at h;have:=(Z7.1 h).2;exact absurd bh3 (Rat.not_lt.2 this))
 ·have f43:¬ (hasQ (slo (cn (frLo 4607182418800017408)) (cn (frHi 4607182418800017408))) (shi (cn (frLo 4607182418800017408)) (cn (frHi 4607182418800017408))) q40=true):=fun hh=>absurd (hh.symm.trans (hk_41_1.symm.trans e1)) (by decide)
  exfalso
  exact f43 (by rw [ZA (Rat.le_trans bh1 bh2),ZB (Rat.le_trans bh1 bh2),h40];exact Z7.2 ⟨bh1,bh2⟩)
end
end Go.Proofs.YtiekmbmgpachpaaGreatDoor.eng
namespace Go.Proofs.YtiekmbmgpachpaaGreatDoor.eng
open Go.RowKit num mem seg q held ratA ratB ratC ratD ratE vars ratF prf
section
variable {K : AV → Prop}
abbrev KC:=Int×Int
def kcD (c:KC):List D:= [D.v (.int .i64 c.1),D.v (.int .i64 c.2)]
def kcL (l:List KC):List D:= [D.list (List.map kcD l)]
def kcV (c:KC):List Value:= [.int .i64 c.1,.int .i64 c.2]
def cmpZ (x y:Int):Int:=if x< y then -1 else if y< x then 1 else 0
theorem Zl5 {x y:Int}:cmpZ x y< 0↔x< y:=by unfold cmpZ;split<;>(try split)<;>omega
theorem ZdG {x y:Int}:cmpZ x y=0↔x=y:=by unfold cmpZ;split<;>(try split)<;>omega
def ordZ (a b:KC):Int:=if cmpZ a.2 b.2=0 then cmpZ a.1 b.1 else cmpZ a.2 b.2
def kcLt (a b:KC):Prop:=a.2< b.2∨(a.2=b.2∧a.1< b.1)
theorem Zaf {a b:KC}:ordZ a b< 0↔kcLt a b:=by
 unfold ordZ kcLt
 split
 ·rename_i h;rw [ZdG] at h;rw [Zl5];omega
 ·rename_i h;rw [ZdG] at h;rw [Zl5];omega
theorem ZkT {a b:KC}:ordZ a b=0↔a=b:=by
 unfold ordZ
 split
 ·rename_i h;rw [ZdG] at h;rw [ZdG];exact⟨fun e=>Prod.ext e h,fun e=>by rw [e]⟩
 ·rename_i h;exact⟨fun e=>absurd e h,fun e=>absurd (ZdG.2 (congrArg Prod.snd e)) h⟩
theorem Zbu {a b c:KC} (h1:kcLt a b) (h2:kcLt b c):kcLt a c:=by unfold kcLt at*;omega
theorem Zjs (a b:KC):kcLt a b∨a=b∨kcLt b a:=by
 by_cases h:a=b
 ·exact .inr (.inl h)
 ·have:a.1≠b.1∨a.2≠b.2:=by
   by_cases h1:a.1=b.1
   ·exact .inr fun h2=>h (Prod.ext h1 h2)
   ·exact .inl h1
  unfold kcLt;omega
theorem ZeX {a:KC}:¬ kcLt a a:=by unfold kcLt;omega
theorem Zdw (x:Int):Spec Tryz.prog Tab 149 [int x] (bool false):=by
 refine Zd Tryz.func149 rfl rfl Tryz.ntmps149 rfl (by kernel_rfl) rfl rfl ?_
 refine Eq.trans (b:=bool (x !=x)) ?_ rfl
 simp
theorem Zck (x y:Int):Spec Tryz.prog Tab 127 [int x,int y] (int (cmpZ x y)):=by
 refine Zd Tryz.func127 rfl rfl Tryz.ntmps127 rfl (by kernel_rfl) rfl rfl ?_
 refine use (Zdw x) rfl ?_
 refine use (Zdw y) rfl ?_
 refine⟨fun e=>absurd e (by decide),fun _=> ?_⟩
 refine⟨fun e=>absurd e (by decide),fun _=> ?_⟩
 refine⟨fun e1=> ?_,fun e1=> ?_⟩
 ·have f16:x< y:=of_decide_eq_true e1
  refine Eq.trans (b:=int (-1)) ?_ rfl
  unfold cmpZ
  rw [if_pos f16]
 ·have f16:¬ (x< y):=of_decide_eq_false e1
  refine⟨fun e2=> ?_,fun e2=> ?_⟩
  ·have f19:x >y:=of_decide_eq_true e2
   refine Eq.trans (b:=int 1) ?_ rfl
   unfold cmpZ
   rw [if_neg f16,if_pos f19]
  ·have f19:¬ (x >y):=of_decide_eq_false e2
   refine Eq.trans (b:=int 0) ?_ rfl
   unfold cmpZ
   rw [if_neg f16,if_neg f19]
theorem ZbO (a b:KC):Spec Tryz.prog Tab 98 [cell a.1 a.2,cell b.1 b.2] (int (ordZ a b)):=by
 refine Zd Tryz.func98 rfl rfl Tryz.ntmps98 rfl (by kernel_rfl) rfl rfl ?_
 refine use (Zck a.2 b.2) rfl ?_
 refine⟨fun e1=> ?_,fun e1=> ?_⟩
 ·have f12:cmpZ a.2 b.2≠0:=Zmb e1
  refine Eq.trans (b:=int (cmpZ a.2 b.2)) ?_ rfl
  unfold ordZ
  rw [if_neg f12]
 ·have f12:¬ (cmpZ a.2 b.2≠0):=fun hh=>hh (Zmc e1)
  refine use (Zck a.1 b.1) rfl ?_
  refine Eq.trans (b:=int (cmpZ a.1 b.1)) ?_ rfl
  unfold ordZ
  rw [if_pos (Decidable.byContradiction f12)]
theorem ZhV:Go.Sort.SWO (ltOf fun (x y:KC)=>ordZ x y) where
 irrefl x:=by
  unfold ltOf
  rw [decide_eq_false]
  exact fun h=>ZeX (Zaf.1 h)
 trans x y z h1 h2:=by
  unfold ltOf at*
  exact decide_eq_true (Zaf.2 (Zbu (Zaf.1 (of_decide_eq_true h1)) (Zaf.1 (of_decide_eq_true h2))))
 ntrans x y z h1 h2:=by
  unfold ltOf at*
  have h1:=of_decide_eq_false h1
  have h2:=of_decide_eq_false h2
  refine decide_eq_false fun h3=> ?_
  rw [Zaf] at h1 h2 h3
  unfold kcLt at*
  omega
theorem Znn (p:KC):∀ v,v∈kcV p→flat v=true:=by
 intro v hv
 simp only [kcV,List.mem_cons,List.not_mem_nil,or_false] at hv
 rcases hv with rfl|rfl<;>rfl
theorem Zj5 (l:List KC) (hn:l.length≤1048576):∃ l':List KC,l'.Perm l∧l'.Pairwise (fun x y=>¬ kcLt y x)∧
  SpecS Tryz.prog Tab 97 [.val (.one (.row 1000 0)),fv 98] 69 2 (l.map kcD) (.tup []) (l'.map kcD):=by
 obtain⟨l1,h1,h2,h3⟩:=Zka (fun (x y:KC)=>ordZ x y) ZhV l
 refine⟨l1,h1,h2.imp fun {a b} h g=>h (Zaf.2 g),?_⟩
 have hs:=Zkd (P:=Tryz.prog) (G:=Tab) (k:=2) (enc:=fun x:KC=>kcV x) Tryz.sortCell Tryz.isAgg69 Tryz.sizeOf69 (fun _=>rfl) (by decide) (fun x=>Znn x) (fun x y=>ordZ x y) ZhV 98
   (Zo Tryz.func98 rfl rfl) (fun x y w hG=>Ze6 (ZbO x y) rfl hG (ZgM rfl)) 69 l (by omega)
 rw [h3] at hs
 exact hs
def keptZ (l:List KC) (m:Nat):List KC:=(List.range m).filterMap fun i=>if i=0∨l[i]? ≠l[i - 1]? then l[i]? else none
theorem Zcv (l:List KC) (m:Nat):keptZ l (m+1)=keptZ l m++(if m=0∨l[m]? ≠l[m - 1]? then l[m]? else none).toList:=by
 unfold keptZ
 rw [List.range_succ,List.filterMap_append]
 cases h:(if m=0∨l[m]? ≠l[m - 1]? then l[m]? else none)<;>simp [h]
theorem ZcX (l:List KC) (m:Nat):(keptZ l m).length≤m:=by
 have:=List.length_filterMap_le (fun i=>if i=0∨l[i]? ≠l[i - 1]? then l[i]? else none) (List.range m)
 simpa [keptZ] using this
theorem Zbi {l:List KC} {m:Nat} {x:KC} (hx:l[m]? =some x) (h:m=0∨l[m - 1]? ≠some x):keptZ l (m+1)=keptZ l m++ [x]:=by
 rw [Zcv,if_pos (by rcases h with h|h;exact .inl h;right;rw [hx];exact fun e=>h e.symm),hx];rfl
theorem Zbt {l:List KC} {m:Nat} {x:KC} (h0:0< m) (hx:l[m]? =some x) (h:l[m - 1]? =some x):keptZ l (m+1)=keptZ l m:=by
 rw [Zcv,if_neg (by rintro(e|e);omega;rw [hx,h] at e;exact e rfl)];simp
theorem ZaQ {l:List KC}:∀ {m:Nat},m≤l.length→(∀ i,0< i→i< m→l[i]? ≠l[i - 1]?)→keptZ l m=l.take m
 |0,_,_=>rfl
 |m+1,h,hd=>by
  obtain⟨x,hx⟩:∃ x,l[m]? =some x:=⟨_,List.getElem?_eq_getElem (by omega)⟩
  rw [Zbi hx (by
   by_cases h0:m=0
   ·exact .inl h0
   ·right;rw [← hx];exact fun e=>hd m (by omega) (by omega) e.symm),ZaQ (by omega) fun i h1 h2=>hd i h1 (by omega),List.take_add_one,hx];rfl
def cmpY (l:List KC) (m:Nat):List KC:=keptZ l m++l.drop (keptZ l m).length
theorem ZnG {l:List KC} {m:Nat} (h:m≤l.length):(cmpY l m).length=l.length:=by
 have:=ZcX l m
 simp only [cmpY,List.length_append,List.length_drop];omega
theorem ZpR {l:List KC} {m i:Nat} (h:(keptZ l m).length≤i):(cmpY l m)[i]? =l[i]? :=by
 unfold cmpY
 rw [List.getElem?_append_right h,List.getElem?_drop]
 congr 1;omega
theorem Zl6 {l:List KC} {m:Nat} (h:m≤l.length) (hd:∀ i,0< i→i< m→l[i]? ≠l[i - 1]?):cmpY l m=l:=by
 unfold cmpY
 rw [ZaQ h hd,List.length_take,Nat.min_eq_left h,List.take_append_drop]
theorem Zl7 {l:List KC} {m:Nat} {x:KC} (h0:0< m) (hx:l[m]? =some x) (h:l[m - 1]? =some x):cmpY l (m+1)=cmpY l m:=by unfold cmpY;rw [Zbt h0 hx h]
theorem ZnF {l:List KC} {m:Nat} {x:KC} (hx:l[m]? =some x) (h:l[m - 1]? ≠some x):(cmpY l m).set (keptZ l m).length x=cmpY l (m+1):=by
 have hk:=ZcX l m
 have hm:m< l.length:=(List.getElem?_eq_some_iff.1 hx).1
 unfold cmpY
 rw [Zbi hx (.inr h),List.set_append_right _ _ (Nat.le_refl _),Nat.sub_self,List.length_append,List.length_singleton,List.append_assoc]
 congr 1
 obtain⟨y,r,e⟩:∃ y r,l.drop (keptZ l m).length=y :: r:=by
  cases e:l.drop (keptZ l m).length with
  |nil=>have:=congrArg List.length e;rw [List.length_drop] at this;simp at this;omega
  |cons y r=>exact⟨y,r,rfl⟩
 rw [e,List.set_cons_zero,← List.drop_drop,e];rfl
theorem Zia {l:List KC} {k:Nat} {x:KC} (h0:0< k) (hx:l[k]? =some x) (h:l[k - 1]? =some x):∀ j,1≤j→(keptZ l (k+j)).length< k+j
 |1,_=>by rw [Zbt h0 hx h];have:=ZcX l k;omega
 |j+2,_=>by
  have ih:=Zia h0 hx h (j+1) (by omega)
  have:(keptZ l (k+(j+1)+1)).length≤(keptZ l (k+(j+1))).length+1:=by
   rw [Zcv,List.length_append]
   have:(if k+(j+1)=0∨l[k+(j+1)]? ≠l[k+(j+1) - 1]? then l[k+(j+1)]? else none).toList.length≤1:=by split<;>simp [Option.length_toList];split<;>omega
   omega
  rw [show k+(j+2)=k+(j+1)+1 by omega];omega
set_option maxHeartbeats 4000000 in
theorem Zeq (l:List KC) (hn:l.length≤1048576):SpecT Tryz.prog Tab 99 [.val (.one (.row 1000 0))] 69 2 (List.map kcD l) 69 2 (List.map kcD (keptZ l l.length)):=by
 have hL:(List.map kcD l).length=l.length:=List.length_map ..
 refine fn_T [] Tryz.func99 rfl rfl Tryz.ntmps99 rfl (by kernel_rfl) rfl rfl ?_
 refine⟨fun e1=> ?_,fun e1=> ?_⟩
 ·have f8:((List.map kcD l).length:Int)< 2:=of_decide_eq_true e1
  rw [ZaQ (Nat.le_refl _) (fun i h1 h2=>by omega),List.take_length]
  exact rfl
 ·have f8:¬ (((List.map kcD l).length:Int)< 2):=of_decide_eq_false e1
  refine⟨Nat,fun i=> [(0,.val (.one (.row 1000 0))),(3,int (i:Int))],
   fun i=> [(1000,.row 69 2 0 (List.map kcD l) true)],fun i=>1≤i∧i≤l.length∧∀ j,0< j→j< i→l[j]? ≠l[j - 1]?,fun i=>l.length - i,1,?_,⟨by omega,by omega,fun j h1 h2=>by omega⟩,fun i hs=> ?_⟩
  ·constructor<;>(repeat' (first|exact rfl|exact True.intro|exact⟨_,_,rfl⟩|exact(by decide)|apply And.intro))
   all_goals first|exact congrArg (fun n:Int=>D.v (.int .i64 n)) (by omega)|exact congrArg (fun n:Int=>D.v (.int .i64 n)) (by rw [wrap64 _ (by omega) (by omega)];omega)|(simp;done)
  obtain⟨g0,g1,g2⟩:=hs
  refine⟨fun e2=> ?_,fun e2=> ?_⟩
  ·have f13:(i:Int)< ((List.map kcD l).length:Int):=of_decide_eq_true e2
   refine k_at_own' i (by first|rfl|omega|(rw [wrap64 _ (by omega) (by omega)];omega)|(rw [wrap64 _ (by omega) (by omega)];split<;>omega)) (by first|omega|(simp only [List.length_set];omega)|(simp;omega)) ?_
   refine get_ex (l:=l) (i:=i) (by first|omega|exact Nat.mod_lt _ (by omega)) fun x19 hx19=> ?_
   refine Zag [D.v (.int .i64 (x19.1)),D.v (.int .i64 (x19.2))] _ (Zm hx19) rfl rfl ?_
   refine k_at_own' (i - 1) (by first|rfl|omega|(rw [wrap64 _ (by omega) (by omega)];omega)|(rw [wrap64 _ (by omega) (by omega)];split<;>omega)) (by first|omega|(simp only [List.length_set];omega)|(simp;omega)) ?_
   refine get_ex (l:=l) (i:=(i - 1)) (by first|omega|exact Nat.mod_lt _ (by omega)) fun x24 hx24=> ?_
   refine Zag [D.v (.int .i64 (x24.1)),D.v (.int .i64 (x24.2))] _ (Zm hx24) rfl rfl ?_
   refine Zf0 (fun f25=> ?_) (fun f25=> ?_)
   ·refine⟨by kernel_rfl,?_⟩
    refine⟨fun _=> ?_,fun e=>absurd e (by decide)⟩
    refine⟨_,⟨by first|omega|decide,by first|omega|(simp;omega)|simp,rfl⟩,?_⟩
    have e24:x19=x24:=Prod.ext f25.1 f25.2
    have hk1:=Zbt (l:=l) (m:=i) (by omega) hx19 (by rw [e24];exact hx24)
    have hkt:=ZaQ (l:=l) (m:=i) (by omega) g2
    have hkl:(keptZ l (i+1)).length=i:=by rw [hk1,hkt,List.length_take];omega
    have hct:=(Zl7 (l:=l) (m:=i) (by omega) hx19 (by rw [e24];exact hx24)).trans (Zl6 (by omega) g2)
    refine⟨Nat,fun j=> [(0,.val (.one (.row 1000 0))),(3,int ((keptZ l (i+j)).length:Int)),(4,.val (.one (.rs 1000 0 2 i))),(5,int (j:Int))],
     fun j=> [(1000,.row 69 2 0 (List.map kcD (cmpY l (i+j))) true)],fun j=>1≤j∧i+j≤l.length,fun j=>l.length - j,1,?_,⟨by omega,by omega⟩,fun j hs=> ?_⟩
    ·constructor<;>(repeat' (first|exact rfl|exact True.intro|exact⟨_,_,rfl⟩|exact(by decide)|apply And.intro))
     all_goals first
      |exact congrArg (fun n:Int=>D.v (.int .i64 n)) (by rw [hkl])
      |(rw [hct];done)
      |exact congrArg (List.map kcD) hct
      |exact congrArg (List.map kcD) hct.symm
      |exact Int.toNat_natCast i
      |exact(Int.toNat_natCast i).symm
    obtain⟨j1,j2⟩:=hs
    have hke:=Zia (l:=l) (k:=i) (by omega) hx19 (by rw [e24];exact hx24) j j1
    have hcl2:=ZnG (l:=l) j2
    have hcl:(List.map kcD (cmpY l (i+j))).length=l.length:=by rw [List.length_map,hcl2]
    have hw1:IntKind.i64.wrap ((j:Int) - 1)=(j:Int) - 1:=wrap64 _ (by omega) (by omega)
    have cX:∀ (q:Nat) {x:KC},(keptZ l (i+j)).length≤q→l[q]? =some x→(cmpY l (i+j))[q]? =some x:=fun q x h1 h2=>by rw [ZpR h1];exact h2
    refine⟨fun e4=> ?_,fun e4=> ?_⟩
    ·have f32:(j:Int)< (((List.map kcD (cmpY l (i+j))).length - i:Nat):Int):=of_decide_eq_true e4
     refine⟨_,⟨by omega,by first|omega|(simp;omega),rfl⟩,?_⟩
     refine get_ex (l:=l) (i:=(i+j)) (by first|omega|exact Nat.mod_lt _ (by omega)) fun x38 hx38=> ?_
     refine Zag [D.v (.int .i64 (x38.1)),D.v (.int .i64 (x38.2))] _ (Zm (cX _ (by omega) hx38)) rfl rfl ?_
     refine⟨_,⟨by omega,by first|omega|(simp;omega),rfl⟩,?_⟩
     refine get_ex (l:=l) (i:=(i+j - 1)) (by first|omega|exact Nat.mod_lt _ (by omega)) fun x43 hx43=> ?_
     refine Zag [D.v (.int .i64 (x43.1)),D.v (.int .i64 (x43.2))] _ (Zm (by rw [hw1,show i+((j:Int) - 1).toNat=i+j - 1 by omega];exact cX _ (by omega) hx43)) rfl rfl ?_
     refine ZfY (fun f44=> ?_) (fun f44=> ?_)
     ·refine⟨by kernel_rfl,?_⟩
      refine⟨fun e=>absurd e (by decide),fun _=> ?_⟩
      have e47:x38=x43:=Prod.ext f44.1 f44.2
      have hkk:=Zbt (l:=l) (m:=i+j) (by omega) hx38 (by rw [e47];exact hx43)
      have hcc:=Zl7 (l:=l) (m:=i+j) (by omega) hx38 (by rw [e47];exact hx43)
      refine⟨j+1,by omega,by simp only;omega,?_⟩
      constructor<;>(repeat' (first|exact rfl|exact True.intro|apply And.intro))
      all_goals first
       |(rw [Nat.add_assoc] at hcc;rw [hcc];done)
       |exact congrArg (fun n:Int=>D.v (.int .i64 n)) (by rw [← Nat.add_assoc,hkk])
       |(rw [Nat.add_assoc] at hkk;rw [hkk];done)
       |exact congrArg (fun n:Int=>D.v (.int .i64 n)) (by rw [wrap64 _ (by omega) (by omega)];omega)
       |exact congrArg (fun n:Int=>D.v (.int .i64 n)) (by omega)
     ·refine⟨by kernel_rfl,?_⟩
      refine⟨fun _=> ?_,fun e=>absurd e (by decide)⟩
      refine⟨_,⟨by omega,by first|omega|(simp;omega),rfl⟩,?_⟩
      refine Zag [D.v (.int .i64 (x38.1)),D.v (.int .i64 (x38.2))] _ (Zm (cX _ (by omega) hx38)) rfl rfl ?_
      refine k_at_own' ((((keptZ l (i+j)).length:Int)).toNat) (by first|rfl|omega|(rw [wrap64 _ (by omega) (by omega)];omega)|(rw [wrap64 _ (by omega) (by omega)];split<;>omega)) (by first|omega|(simp only [List.length_set];omega)|(simp;omega)) ?_
      refine⟨by first|omega|(simp only [List.length_set];omega)|(simp;omega),?_⟩
      have g44:¬ x38=x43:=fun e=>f44 ⟨congrArg Prod.fst e,congrArg Prod.snd e⟩
      have hkk:=Zbi hx38 (.inr (by rw [hx43];exact fun e=>g44 (Option.some.inj e).symm))
      have hcc:=ZnF hx38 (by rw [hx43];exact fun e=>g44 (Option.some.inj e).symm)
      refine⟨j+1,by omega,by simp only;omega,?_⟩
      constructor<;>(repeat' (first|exact rfl|exact True.intro|apply And.intro))
      all_goals first
       |(rw [Nat.add_assoc] at hcc;rw [← hcc,List.map_set];rfl)
       |exact congrArg (fun n:Int=>D.v (.int .i64 n)) (by rw [wrap64 _ (by omega) (by omega),← Nat.add_assoc,hkk,List.length_append];simp)
       |exact congrArg (fun n:Int=>D.v (.int .i64 n)) (by rw [wrap64 _ (by omega) (by omega)];omega)
       |exact congrArg (fun n:Int=>D.v (.int .i64 n)) (by omega)
    ·have f32:¬ ((j:Int)< (((List.map kcD (cmpY l (i+j))).length - i:Nat):Int)):=of_decide_eq_false e4
     refine⟨_,⟨by first|omega|decide,by first|omega|(simp;omega)|simp,rfl⟩,?_⟩
     refine⟨⟨by first|omega|decide,by first|omega|(simp only [List.length_append,List.length_take,List.length_replicate,List.length_map];omega)|(simp;omega)|simp⟩,?_⟩
     have hik:i+j=l.length:=by omega
     rw [hik] at*
     exact congrArg (fun m=>Ob.row _ 2 _ m true) (by simp [cmpY])
   ·refine⟨by kernel_rfl,?_⟩
    refine⟨fun e=>absurd e (by decide),fun _=> ?_⟩
    refine⟨i+1,⟨by omega,by omega,fun j h1 h2=>by
     by_cases e:j=i
     ·subst e;rw [hx19,hx24];exact fun e=>f25 ⟨congrArg Prod.fst (Option.some.inj e),congrArg Prod.snd (Option.some.inj e)⟩
     ·exact g2 j h1 (by omega)⟩,by simp only;omega,?_⟩
    constructor<;>(repeat' (first|exact rfl|exact True.intro|apply And.intro))
    all_goals first
     |exact congrArg (fun n:Int=>D.v (.int .i64 n)) (by rw [wrap64 _ (by omega) (by omega)];omega)
     |exact congrArg (fun n:Int=>D.v (.int .i64 n)) (by omega)
  ·have f13:¬ ((i:Int)< ((List.map kcD l).length:Int)):=of_decide_eq_false e2
   rw [ZaQ (Nat.le_refl _) (fun j h1 h2=>g2 j h1 (by omega)),List.take_length]
   exact rfl
end
end Go.Proofs.YtiekmbmgpachpaaGreatDoor.eng
namespace Go.Proofs.YtiekmbmgpachpaaGreatDoor.eng
open Go.RowKit num mem seg q held ratA ratB ratC ratD ratE vars ratF prf
section
variable {K : AV → Prop}
theorem ZpX:Tryz.prog.underlying 3=some (.int .i64):=by kernel_rfl
theorem Zf4 {α:Type} {L:List (List α)} {i:Nat} {m:List α} (h:L[i]? =some m):(L.take (i+1)).flatten.length=(L.take i).flatten.length+m.length:=by
 rw [List.take_add_one,h,List.flatten_append,List.length_append];simp
theorem Ze0 {α:Type} (L:List (List α)) (i:Nat):(L.take i).flatten.length≤L.flatten.length:=by
 have e:L.flatten=(L.take i).flatten++(L.drop i).flatten:=by rw [← List.flatten_append,List.take_append_drop]
 rw [e,List.length_append];omega
theorem Zep {α β:Type} (g:α→β) {L:List (List α)} {i:Nat} {m:List α} (h:L[i]? =some m):List.map g (L.take (i+1)).flatten=List.map g (L.take i).flatten++List.map g m:=by
 rw [List.take_add_one,h,List.flatten_append,List.map_append];simp
theorem ZhR {R:KC→KC→Prop} {s:List KC} (h:s.Pairwise R) {i j:Nat} {a b:KC} (hij:i< j) (ha:s[i]? =some a) (hb:s[j]? =some b):R a b:=by
 obtain⟨h1,rfl⟩:=List.getElem?_eq_some_iff.1 ha
 obtain⟨h2,rfl⟩:=List.getElem?_eq_some_iff.1 hb
 exact List.pairwise_iff_getElem.1 h i j h1 h2 hij
theorem ZfT (l:List KC):∀ m,m≤l.length→∀ q,q∈keptZ l m↔q∈l.take m
 |0,_,q=>by simp [keptZ]
 |m+1,h,q=>by
  have hx:l[m]? =some (l[m]'(by omega)):=List.getElem?_eq_getElem (by omega)
  have ih:=ZfT l m (by omega) q
  by_cases hd:m=0∨l[m - 1]? ≠l[m]?
  ·rw [Zbi hx (by rw [← hx];exact hd),List.take_add_one,hx]
   simp only [List.mem_append,Option.toList_some,ih]
  ·have h0:0< m:=by omega
   have hs:l[m - 1]? =l[m]? :=Decidable.byContradiction fun e=>hd (.inr e)
   rw [Zbt h0 hx (hs.trans hx),List.take_add_one,hx,List.mem_append,ih]
   refine⟨.inl,fun g=>g.elim id fun g=> ?_⟩
   obtain rfl:q=l[m]'(by omega):=by simpa using g
   have h2:(l.take m)[m - 1]? =some (l[m]'(by omega)):=by rw [List.getElem?_take_of_lt (by omega),hs,hx]
   exact List.mem_of_getElem? h2
theorem Zh9 {l:List KC} (hs:l.Pairwise fun x y=>¬ kcLt y x):∀ m,m≤l.length→(keptZ l m).Pairwise kcLt∧∀ q,q∈keptZ l m→∀ x,l[m - 1]? =some x→0< m→q=x∨kcLt q x
 |0,_=>⟨by simp [keptZ],fun q hq=>by simp [keptZ] at hq⟩
 |m+1,h=>by
  have hx:l[m]? =some (l[m]'(by omega)):=List.getElem?_eq_getElem (by omega)
  obtain⟨i1,i2⟩:=Zh9 hs m (by omega)
  by_cases hd:m=0∨l[m - 1]? ≠l[m]?
  ·rw [Zbi hx (by rw [← hx];exact hd)]
   have hlt:∀ q,q∈keptZ l m→kcLt q (l[m]'(by omega)):=by
    intro q hq
    rcases Nat.eq_zero_or_pos m with rfl|hm0
    ·simp [keptZ] at hq
    ·have hd:=hd.resolve_left (by omega)
     have hy:l[m - 1]? =some (l[m - 1]'(by omega)):=List.getElem?_eq_getElem (by omega)
     have hyx:kcLt (l[m - 1]'(by omega)) (l[m]'(by omega)):=by
      rcases Zjs (l[m - 1]'(by omega)) (l[m]'(by omega)) with g|g|g
      ·exact g
      ·exact absurd (by rw [hy,hx,g]) hd
      ·exact absurd g (ZhR hs (by omega) hy hx)
     rcases i2 q hq _ hy hm0 with rfl|g
     ·exact hyx
     ·exact Zbu g hyx
   refine⟨List.pairwise_append.2 ⟨i1,List.pairwise_singleton ..,fun a ha b hb=> ?_⟩,fun q hq x h2 _=> ?_⟩
   ·rw [List.mem_singleton.1 hb];exact hlt a ha
   ·rw [Nat.add_sub_cancel,hx] at h2
    rw [← Option.some.inj h2]
    rcases List.mem_append.1 hq with g|g
    ·exact .inr (hlt q g)
    ·exact .inl (List.mem_singleton.1 g)
  ·have h0:0< m:=by omega
   have hs':l[m - 1]? =l[m]? :=Decidable.byContradiction fun e=>hd (.inr e)
   rw [Zbt h0 hx (hs'.trans hx)]
   exact⟨i1,fun q hq x h2 _=>i2 q hq x (by rw [hs'];rwa [Nat.add_sub_cancel] at h2) h0⟩
theorem ZjL (n:Nat) (h0:0< n) (hn:n≤1048576):SpecR Tryz.prog Tab 124 [.val (.one (.d (.v (.slice none 0 0)))),int (n:Int)] 69 2 ([]):=by
 have hwn:IntKind.i64.wrap ((n:Int) - 0)=(n:Int):=by rw [Int.sub_zero];exact wrap64 _ (by omega) (by omega)
 refine ZlK Tryz.func124 rfl rfl Tryz.ntmps124 rfl (by kernel_rfl) rfl rfl ?_
 refine⟨fun e1=> ?_,fun e1=> ?_⟩
 ·have f6:(n:Int)< 0:=of_decide_eq_true e1
  exfalso
  omega
 ·have f6:¬ ((n:Int)< 0):=of_decide_eq_false e1
  refine⟨fun e2=> ?_,fun e2=> ?_⟩
  ·have f16:IntKind.i64.wrap ((n:Int) - 0) >0:=of_decide_eq_true e2
   refine⟨_,⟨rfl,rfl⟩,?_⟩
   refine⟨⟨⟨_,ZpX⟩,by show 0< IntKind.i64.wrap ((n:Int) - 0);rw [hwn];omega,by show IntKind.i64.wrap ((n:Int) - 0)*16≤_;rw [hwn];omega,by show IntKind.i64.wrap ((n:Int) - 0)≤_;rw [hwn];omega⟩,?_⟩
   refine⟨⟨by first|omega|decide,by first|omega|(simp only [List.length_append,List.length_take,List.length_replicate,List.length_map];omega)|(simp;omega)|simp⟩,?_⟩
   exact rfl
  ·have f16:¬ (IntKind.i64.wrap ((n:Int) - 0) >0):=of_decide_eq_false e2
   exfalso
   rw [hwn] at f16;omega
theorem ZcL (L:List (List KC)) (h0:0< L.flatten.length) (hfl:L.flatten.length≤1048576) (hn:L.length≤1048576):SpecR Tryz.prog Tab 96 [.val (.one (.d (.list (List.map kcL L))))] 69 2 (List.map kcD L.flatten):=by
 have hLl:(List.map kcL L).length=L.length:=List.length_map ..
 refine Zha [24] Tryz.func96 rfl rfl Tryz.ntmps96 rfl (by kernel_rfl) rfl rfl ?_
 refine⟨Nat,fun i=> [(0,.val (.one (.d (.list (List.map kcL L))))),(3,int ((L.take i).flatten.length:Int)),(9,.val (.one (.d (.list (List.map kcL L))))),(10,int ((List.map kcL L).length:Int)),(11,int (i:Int))],
  fun i=> [],fun i=>i≤L.length,fun i=>L.length - i,0,?_,Nat.zero_le _,fun i hs=> ?_⟩
 ·constructor<;>(repeat' (first|exact rfl|exact True.intro|exact⟨_,_,rfl⟩|exact(by decide)|apply And.intro))
  all_goals first|exact congrArg (fun n:Int=>D.v (.int .i64 n)) (by omega)|exact congrArg (fun n:Int=>D.v (.int .i64 n)) (by rw [wrap64 _ (by omega) (by omega)];omega)|(simp;done)
 refine⟨fun e1=> ?_,fun e1=> ?_⟩
 ·have f12:(i:Int)< ((List.map kcL L).length:Int):=of_decide_eq_true e1
  refine get_ex (l:=L) (i:=i) (by first|omega|exact Nat.mod_lt _ (by omega)) fun x13 hx13=> ?_
  have hmx13:(List.map kcD x13).length=x13.length:=List.length_map ..
  have hfx13:=Zf4 hx13
  have hgx13:=Ze0 L (i+1)
  refine k_ix i [D.list (List.map kcD x13)] (by first|rfl|omega|(rw [wrap64 _ (by omega) (by omega)];omega)|(rw [wrap64 _ (by omega) (by omega)];split<;>omega)) (Zm hx13) rfl ?_
  refine⟨fun e2=> ?_,fun e2=> ?_⟩
  ·have f20:IntKind.i64.wrap (((L.take i).flatten.length:Int)+((List.map kcD x13).length:Int))< 0:=of_decide_eq_true e2
   exfalso
   rw [wrap64 _ (by omega) (by omega)] at f20;omega
  ·have f20:¬ (IntKind.i64.wrap (((L.take i).flatten.length:Int)+((List.map kcD x13).length:Int))< 0):=of_decide_eq_false e2
   refine⟨i+1,by omega,by simp only;omega,?_⟩
   constructor<;>(repeat' (first|exact rfl|exact True.intro|apply And.intro))
   all_goals first
    |exact congrArg (fun n:Int=>D.v (.int .i64 n)) (by rw [wrap64 _ (by omega) (by omega)];omega)
    |exact congrArg (fun n:Int=>D.v (.int .i64 n)) (by rw [wrap64 _ (by omega) (by omega)];omega)
    |exact congrArg (fun n:Int=>D.v (.int .i64 n)) (by omega)
 ·have f12:¬ ((i:Int)< ((List.map kcL L).length:Int)):=of_decide_eq_false e1
  have hgr:=ZjL L.flatten.length h0 hfl
  have hLi:(L.take i).flatten.length=L.flatten.length:=by rw [show i=L.length by omega,List.take_length]
  rw [← hLi] at hgr
  refine useN hgr ?_
  refine⟨Nat,fun i=> [(6,.val (.one (.row 24 0))),(25,.val (.one (.d (.list (List.map kcL L))))),(26,int ((List.map kcL L).length:Int)),(27,int (i:Int))],
   fun i=> [(24,.row 69 2 0 (List.map kcD ((L.take i).flatten)) true)],fun i=>i≤L.length,fun i=>L.length - i,0,?_,Nat.zero_le _,fun i hs=> ?_⟩
  ·constructor<;>(repeat' (first|exact rfl|exact True.intro|exact⟨_,_,rfl⟩|exact(by decide)|apply And.intro))
   all_goals first|exact congrArg (fun n:Int=>D.v (.int .i64 n)) (by omega)|exact congrArg (fun n:Int=>D.v (.int .i64 n)) (by rw [wrap64 _ (by omega) (by omega)];omega)|(simp;done)
  have hT:(List.map kcD (L.take i).flatten).length=(L.take i).flatten.length:=List.length_map ..
  have hg0:=Ze0 L i
  refine⟨fun e3=> ?_,fun e3=> ?_⟩
  ·have f28:(i:Int)< ((List.map kcL L).length:Int):=of_decide_eq_true e3
   refine get_ex (l:=L) (i:=i) (by first|omega|exact Nat.mod_lt _ (by omega)) fun x29 hx29=> ?_
   have hmx29:(List.map kcD x29).length=x29.length:=List.length_map ..
   have hfx29:=Zf4 hx29
   have hgx29:=Ze0 L (i+1)
   refine k_ix i [D.list (List.map kcD x29)] (by first|rfl|omega|(rw [wrap64 _ (by omega) (by omega)];omega)|(rw [wrap64 _ (by omega) (by omega)];split<;>omega)) (Zm hx29) rfl ?_
   refine⟨⟨(ZeW fun _=>rfl),(by show ((List.map kcD ((L.take i).flatten)).length+(List.map kcD x29).length)*16≤_;omega),(by show ((List.map kcD ((L.take i).flatten)).length+(List.map kcD x29).length)≤_;omega)⟩,?_⟩
   refine⟨i+1,by omega,by simp only;omega,?_⟩
   constructor<;>(repeat' (first|exact rfl|exact True.intro|apply And.intro))
   all_goals first
    |exact(Zep kcD hx29).symm
    |exact Zep kcD hx29
    |exact congrArg (fun n:Int=>D.v (.int .i64 n)) (by rw [wrap64 _ (by omega) (by omega)];omega)
    |exact congrArg (fun n:Int=>D.v (.int .i64 n)) (by omega)
  ·have f28:¬ ((i:Int)< ((List.map kcL L).length:Int)):=of_decide_eq_false e3
   exact congrArg (fun m=>Ob.row _ 2 _ (List.map kcD (List.flatten m)) true) (List.take_of_length_le (by omega))
theorem Zkb (L:List (List KC)) (h0:0< L.flatten.length) (hfl:L.flatten.length≤1048576) (hn:L.length≤1048576) (M:List KC) (hM:M.length≤1048576) (hS:SpecS Tryz.prog Tab 97 [.val (.one (.row 1000 0)),fv 98] 69 2 (L.flatten.map kcD) (.tup []) (M.map kcD)):SpecR Tryz.prog Tab 54 [.val (.one (.d (.list (List.map kcL L))))] 69 2 (List.map kcD (keptZ M M.length)):=by
 refine Zha [5,500007,9] Tryz.func54 rfl rfl Tryz.ntmps54 rfl (by kernel_rfl) rfl rfl ?_
 refine useN (ZcL L h0 hfl hn) ?_
 refine⟨.tup [],List.map kcD M,⟨rfl,hS⟩,?_⟩
 refine⟨_,_,_,Zeq M hM,?_⟩
 exact rfl
theorem Zkc (L:List (List KC)) (h0:0< L.flatten.length) (hfl:L.flatten.length≤1048576) (hn:L.length≤1048576) (M:List KC) (hM:M.length≤1048576) (hS:SpecS Tryz.prog Tab 97 [.val (.one (.row 1000 0)),fv 98] 69 2 (L.flatten.map kcD) (.tup []) (M.map kcD)):Spec Tryz.prog Tab 54 [.val (.one (.d (.list (List.map kcL L))))] (.val (.one (.d (.list (List.map kcD (keptZ M M.length)))))):=by
 refine Zeo [5,500007,9] Tryz.func54 rfl rfl Tryz.ntmps54 rfl (by kernel_rfl) rfl rfl ?_
 refine useN (ZcL L h0 hfl hn) ?_
 refine⟨.tup [],List.map kcD M,⟨rfl,hS⟩,?_⟩
 refine⟨_,_,_,Zeq M hM,?_⟩
 refine Eq.trans (b:= .val (.one (.d (.list (List.map kcD (keptZ M M.length)))))) ?_ rfl
 rfl
theorem sortedZ (L:List (List KC)) (h0:0< L.flatten.length) (hfl:L.flatten.length≤1048576) (hn:L.length≤1048576):∃ M:List KC,M.Pairwise kcLt∧(∀ c,c∈M↔c∈L.flatten)∧M.length≤L.flatten.length∧
  SpecR Tryz.prog Tab 54 [.val (.one (.d (.list (List.map kcL L))))] 69 2 (List.map kcD M)∧Spec Tryz.prog Tab 54 [.val (.one (.d (.list (List.map kcL L))))] (.val (.one (.d (.list (List.map kcD M))))):=by
 obtain⟨M,h1,h2,h3⟩:=Zj5 L.flatten hfl
 have hl:=h1.length_eq
 exact⟨keptZ M M.length,(Zh9 h2 M.length (Nat.le_refl _)).1,fun c=>by rw [ZfT M M.length (Nat.le_refl _),List.take_length];exact h1.mem_iff,by have:=ZcX M M.length;omega,Zkb L h0 hfl hn M (by omega) h3,Zkc L h0 hfl hn M (by omega) h3⟩
end
end Go.Proofs.YtiekmbmgpachpaaGreatDoor.eng
namespace Go.Proofs.YtiekmbmgpachpaaGreatDoor.eng
open Go.RowKit num mem seg q held ratA ratB ratC ratD ratE vars ratF
section
variable {K : AV → Prop} {T : TypeId} {ox oy : Operand}
theorem bwz64 {m:Int} (h0:0≤m) (h1:m< 18446744073709551616):IntKind.u64.wrap m=m:=by
 unfold IntKind.wrap
 simp [IntKind.signed,IntKind.bits]
 omega
theorem ZmH (T:TypeId) (ox oy:Operand) (k:IntKind) (n r:Nat) (hr:r≤64) (w:World):(do eqGuard .shr T ox oy (.int .u64 (n:Int)) (.int k (r:Int));binOp .shr T (.int .u64 (n:Int)) (.int k (r:Int)):Sem Value).run Tryz.prog w= .ok (.int .u64 ((n / 2 ^ r:Nat):Int)) w:=by
 have hg:eqGuard .shr T ox oy (.int .u64 (n:Int)) (.int k (r:Int))=pure ():=rfl
 rw [hg,binOp_shr]
 unfold Op.shift
 rw [if_neg (by omega)]
 have hm:min (r:Int).toNat IntKind.u64.bits=r:=by rw [Int.toNat_natCast];exact Nat.min_eq_left hr
 have e1:(n:Int).fdiv (2 ^ r)=((n / 2 ^ r:Nat):Int):=by
  have:(2:Int) ^ r=((2 ^ r:Nat):Int):=by rw [Int.natCast_pow];rfl
  rw [this,Int.fdiv_eq_ediv_of_nonneg _ (Int.natCast_nonneg _)]
  exact(Int.natCast_ediv _ _).symm
 simp only [hm,e1]
 rfl
theorem ZqO {k:IntKind} {x y:Int} (n r d:Nat) (hx:x=n) (hy:y=r) (hd:2 ^ r=d) (hr:r≤64) (k1:K (one (.int .u64 ((n / d:Nat):Int)))):AskB .shr T ox oy (.int .u64 x) (.int k y) K:=by
 subst hx hy hd
 exact⟨_,⟨_,rfl,rfl,ZmH T ox oy k n r hr⟩,k1⟩
end
end Go.Proofs.YtiekmbmgpachpaaGreatDoor.eng
namespace Go.Proofs.YtiekmbmgpachpaaGreatDoor.eng
open Go.RowKit num mem seg q held ratA ratB ratC ratD ratE vars ratF prf
section
variable {K : AV → Prop}
def bsZ (l:List KC) (c:KC):Nat:=(l.filter fun x=>decide (ordZ x c< 0)).length
theorem Zoz {l:List KC} {c:KC} {a:Nat} (ha:a≤l.length) (h1:∀ i x,i< a→l[i]? =some x→ordZ x c< 0) (h2:∀ i x,a≤i→l[i]? =some x→¬ ordZ x c< 0):bsZ l c=a:=by
 have e:l=l.take a++l.drop a:=(List.take_append_drop a l).symm
 unfold bsZ
 rw [e,List.filter_append,List.filter_eq_self.2 ?_,List.filter_eq_nil_iff.2 ?_,List.append_nil,List.length_take]
 ·omega
 ·intro x hx
  obtain⟨i,hi⟩:=List.getElem?_of_mem hx
  rw [List.getElem?_drop] at hi
  simpa using h2 (a+i) x (by omega) hi
 ·intro x hx
  obtain⟨i,hi⟩:=List.getElem?_of_mem hx
  have hia:i< a:=by
   rcases Nat.lt_or_ge i a with g|g
   ·exact g
   ·rw [List.getElem?_eq_none (by rw [List.length_take];omega)] at hi;simp at hi
  rw [List.getElem?_take_of_lt hia] at hi
  exact decide_eq_true (h1 i x hia hi)
theorem ZrA {l:List KC} {c x:KC} {m:Nat} (hs:l.Pairwise kcLt) (hx:l[m]? =some x) (h:ordZ x c< 0):∀ i y,i< m+1→l[i]? =some y→ordZ y c< 0:=by
 intro i y hi hy
 by_cases e:i=m
 ·subst e;rw [hx] at hy;rw [← Option.some.inj hy];exact h
 ·exact Zaf.2 (Zbu (ZhR hs (show i< m by omega) hy hx) (Zaf.1 h))
theorem ZpY {l:List KC} {c x:KC} {m:Nat} (hs:l.Pairwise kcLt) (hx:l[m]? =some x) (h:¬ ordZ x c< 0):∀ i y,m≤i→l[i]? =some y→¬ ordZ y c< 0:=by
 intro i y hi hy g
 by_cases e:i=m
 ·subst e;rw [hx] at hy;rw [← Option.some.inj hy] at g;exact h g
 ·exact h (Zaf.2 (Zbu (ZhR hs (show m< i by omega) hx hy) (Zaf.1 g)))
theorem Zrz {l:List KC} {c x:KC} {a:Nat} (hs:l.Pairwise kcLt) (hx:l[a]? =some x) (h1:∀ i x,i< a→l[i]? =some x→ordZ x c< 0) (h2:∀ i x,a≤i→l[i]? =some x→¬ ordZ x c< 0):decide (c∈l)=(ordZ x c==0):=by
 rw [Bool.eq_iff_iff]
 simp only [decide_eq_true_eq,beq_iff_eq]
 constructor
 ·intro hc
  obtain⟨i,hi⟩:=List.getElem?_of_mem hc
  rcases Nat.lt_trichotomy i a with g|g|g
  ·have:=h1 i c g hi;rw [Zaf] at this;exact absurd this ZeX
  ·subst g;rw [hx] at hi;rw [Option.some.inj hi];exact ZkT.2 rfl
  ·exact absurd (Zaf.2 (ZhR hs g hx hi)) (h2 a x (Nat.le_refl _) hx)
 ·intro h
  rw [← ZkT.1 h];exact List.mem_of_getElem? hx
theorem Zr7 {l:List KC} {c:KC} {a:Nat} (ha:l.length≤a) (h1:∀ i x,i< a→l[i]? =some x→ordZ x c< 0):decide (c∈l)=false:=by
 refine decide_eq_false fun hc=> ?_
 obtain⟨i,hi⟩:=List.getElem?_of_mem hc
 have hil:=(List.getElem?_eq_some_iff.1 hi).1
 have:=h1 i c (by omega) hi
 rw [Zaf] at this;exact ZeX this
theorem Ze7 (l:List KC) (c:KC) (hs0:l.Pairwise kcLt) (hn:l.length≤1048576):Spec Tryz.prog Tab 101 [.val (.one (.d (.list (List.map kcD l)))),cell c.1 c.2,fv 98] (.tup [.one (.d (.v (.int .i64 ((bsZ l c:Int))))),.one (.d (.v (.bool (decide (c∈l)))))]):=by
 have hL:(List.map kcD l).length=l.length:=List.length_map ..
 refine Zd Tryz.func101 rfl rfl Tryz.ntmps101 rfl (by kernel_rfl) rfl rfl ?_
 refine⟨Nat×Nat,fun (a,b)=> [(0,.val (.one (.d (.list (List.map kcD l))))),(2,fv 98),(4,.val (.one (.ptr 4 0))),(8,int ((List.map kcD l).length:Int)),(9,int (a:Int)),(10,int (b:Int))],
  fun (a,b)=> [(4,.var 69 [.d (.v (.int .i64 (c.1))),.d (.v (.int .i64 (c.2)))])],fun (a,b)=>a≤b∧b≤l.length∧(∀ i x,i< a→l[i]? =some x→ordZ x c< 0)∧(∀ i x,b≤i→l[i]? =some x→¬ ordZ x c< 0),fun (a,b)=>b - a,(0,l.length),?_,⟨Nat.zero_le _,Nat.le_refl _,fun i x h=>by omega,fun i x h hx=>by have:=(List.getElem?_eq_some_iff.1 hx).1;omega⟩,fun s hs=> ?_⟩
 ·constructor<;>(repeat' (first|exact rfl|exact True.intro|exact⟨_,_,rfl⟩|exact(by decide)|apply And.intro))
  all_goals first|exact congrArg (fun n:Int=>D.v (.int .i64 n)) (by omega)|exact congrArg (fun n:Int=>D.v (.int .i64 n)) (by rw [wrap64 _ (by omega) (by omega)];omega)|(simp;done)
 obtain⟨a,b⟩:=s
 obtain⟨g1,g2,g3,g4⟩:=hs
 refine⟨fun e1=> ?_,fun e1=> ?_⟩
 ·have f17:(a:Int)< (b:Int):=of_decide_eq_true e1
  refine Zlp (k':= .u64) (by kernel_rfl) (by kernel_rfl) ((a+b:Nat):Int) (by rw [wrap64 _ (by omega) (by omega),bwz64 (by omega) (by omega)];omega) ?_
  refine ZqO (a+b) 1 2 rfl rfl (by decide) (by decide) ?_
  refine Zlp (k':= .i64) (by kernel_rfl) (by kernel_rfl) (((a+b) / 2:Nat):Int) (by rw [wrap64 _ (by omega) (by omega)]) ?_
  refine get_ex (l:=l) (i:=((a+b) / 2)) (by first|omega|exact Nat.mod_lt _ (by omega)) fun x27 hx27=> ?_
  refine k_ix ((a+b) / 2) [D.v (.int .i64 (x27.1)),D.v (.int .i64 (x27.2))] (by first|rfl|omega|(rw [wrap64 _ (by omega) (by omega)];omega)|(rw [wrap64 _ (by omega) (by omega)];split<;>omega)) (Zm hx27) rfl ?_
  refine use (ZbO x27 c) rfl ?_
  refine⟨by kernel_rfl,?_⟩
  refine⟨fun e2=> ?_,fun e2=> ?_⟩
  ·have f31:ordZ x27 c< 0:=of_decide_eq_true e2
   refine⟨((a+b) / 2+1,b),⟨by omega,by omega,ZrA hs0 hx27 f31,g4⟩,by simp only;omega,?_⟩
   constructor<;>(repeat' (first|exact rfl|exact True.intro|apply And.intro))
   all_goals first
    |exact congrArg (fun n:Int=>D.v (.int .i64 n)) (by rw [wrap64 _ (by omega) (by omega)];omega)
    |exact congrArg (fun n:Int=>D.v (.int .i64 n)) (by omega)
  ·have f31:¬ (ordZ x27 c< 0):=of_decide_eq_false e2
   refine⟨(a,(a+b) / 2),⟨by omega,by omega,g3,ZpY hs0 hx27 f31⟩,by simp only;omega,?_⟩
   constructor<;>(repeat' (first|exact rfl|exact True.intro|apply And.intro))
   all_goals first
    |exact congrArg (fun n:Int=>D.v (.int .i64 n)) (by rw [wrap64 _ (by omega) (by omega)];omega)
    |exact congrArg (fun n:Int=>D.v (.int .i64 n)) (by omega)
 ·have f17:¬ ((a:Int)< (b:Int)):=of_decide_eq_false e1
  refine fork (fun e3=> ?_) (fun e3=> ?_)
  ·have f39:(a:Int)< ((List.map kcD l).length:Int):=of_decide_eq_true e3
   refine get_ex (l:=l) (i:=a) (by first|omega|exact Nat.mod_lt _ (by omega)) fun x43 hx43=> ?_
   refine k_ix a [D.v (.int .i64 (x43.1)),D.v (.int .i64 (x43.2))] (by first|rfl|omega|(rw [wrap64 _ (by omega) (by omega)];omega)|(rw [wrap64 _ (by omega) (by omega)];split<;>omega)) (Zm hx43) rfl ?_
   refine use (ZbO x43 c) rfl ?_
   refine⟨by kernel_rfl,?_⟩
   refine Eq.trans (b:= .tup [.one (.d (.v (.int .i64 ((a:Int))))),.one (.d (.v (.bool (ordZ x43 c==0))))]) ?_ rfl
   obtain rfl:a=b:=by omega
   rw [Zoz g2 g3 g4]
   rw [Zrz hs0 hx43 g3 g4]
  ·have f39:¬ ((a:Int)< ((List.map kcD l).length:Int)):=of_decide_eq_false e3
   refine⟨by kernel_rfl,?_⟩
   refine Eq.trans (b:= .tup [.one (.d (.v (.int .i64 ((a:Int))))),.one (.d (.v (.bool (false))))]) ?_ rfl
   obtain rfl:a=b:=by omega
   rw [Zoz g2 g3 g4]
   rw [Zr7 (by omega) g3]
theorem Zly (l:List KC) (c:KC) (hs0:l.Pairwise kcLt) (hn:l.length≤1048576):Spec Tryz.prog Tab 57 [.val (.one (.d (.list (List.map kcD l)))),cell c.1 c.2] (bool (decide (c∈l))):=by
 refine Zd Tryz.func57 rfl rfl Tryz.ntmps57 rfl (by kernel_rfl) rfl rfl ?_
 refine use (Ze7 l c (by assumption) (by assumption)) rfl ?_
 refine Eq.trans (b:=bool (decide (c∈l))) ?_ rfl
 rfl
end
end Go.Proofs.YtiekmbmgpachpaaGreatDoor.eng
namespace Go.Proofs.YtiekmbmgpachpaaGreatDoor.eng
open Go.RowKit num mem seg q held ratA ratB ratC ratD ratE vars ratF prf
section
variable {K : AV → Prop}
def fiZ (p:KC→Bool) (l:List KC):Int:=match l.findIdx? p with
 |some i=>(i:Int)
 |none=> -1
theorem Zrh {p:KC→Bool} {l:List KC} {i:Nat} {x:KC} (hx:l[i]? =some x) (h:p x=true) (h1:∀ (j:Nat) (y:KC),j< i→l[j]? =some y→p y=false):fiZ p l=(i:Int):=by
 have:l.findIdx? p=some i:=by
  rw [List.findIdx?_eq_some_iff_getElem]
  obtain⟨hi,rfl⟩:=List.getElem?_eq_some_iff.1 hx
  exact⟨hi,h,fun j hj=>by have:=h1 j _ hj (List.getElem?_eq_getElem (by omega));rw [this];decide⟩
 unfold fiZ;rw [this]
theorem Zrg {p:KC→Bool} {l:List KC} (h:∀ (j:Nat) (y:KC),l[j]? =some y→p y=false):fiZ p l=-1:=by
 have:l.findIdx? p=none:=by
  rw [List.findIdx?_eq_none_iff]
  intro x hx
  obtain⟨j,hj⟩:=List.getElem?_of_mem hx
  rw [h j x hj]
 unfold fiZ;rw [this]
theorem ZlO (p:KC→Bool) (l:List KC):(fiZ p l=-1∧∀ x,x∈l→p x=false)∨∃ (i:Nat) (x:KC),fiZ p l=(i:Int)∧l[i]? =some x∧p x=true∧∀ (j:Nat) (y:KC),j< i→l[j]? =some y→p y=false:=by
 unfold fiZ
 cases h:l.findIdx? p with
 |none=>exact .inl ⟨rfl,fun x hx=>by have:=List.findIdx?_eq_none_iff.1 h x hx;simpa using this⟩
 |some i=>
  obtain⟨hi,h1,h2⟩:=List.findIdx?_eq_some_iff_getElem.1 h
  exact .inr ⟨i,l[i],rfl,List.getElem?_eq_getElem hi,h1,fun j y hj hy=>by
   obtain⟨hj2,rfl⟩:=List.getElem?_eq_some_iff.1 hy
   have:=h2 j hj;simpa using this⟩
def noP (B:List KC) (c:KC):Bool:= !decide (c∈B)
theorem Zmr (B:List KC) (c:KC) (hB:B.Pairwise kcLt) (hBn:B.length≤1048576):Spec Tryz.prog Tab 56 [cell c.1 c.2,.val (.one (.ref [D.list (List.map kcD B)]))] (bool (noP B c)):=by
 refine Zd Tryz.func56 rfl rfl Tryz.ntmps56 rfl (by kernel_rfl) rfl rfl ?_
 refine use (Zly B c hB hBn) rfl ?_
 refine Eq.trans (b:=bool (!(decide (c∈B)))) ?_ rfl
 rfl
theorem Zpt (B l:List KC) (hB:B.Pairwise kcLt) (hBn:B.length≤1048576) (hn:l.length≤1048576):Spec Tryz.prog Tab 100 [.val (.one (.d (.list (List.map kcD l)))),.val (.one (.d (.fn 56 [[D.list (List.map kcD B)]])))] (int (fiZ (noP B) l)):=by
 have hL:(List.map kcD l).length=l.length:=List.length_map ..
 refine Zd Tryz.func100 rfl rfl Tryz.ntmps100 rfl (by kernel_rfl) rfl rfl ?_
 refine⟨Nat,fun i=> [(0,.val (.one (.d (.list (List.map kcD l))))),(1,.val (.one (.d (.fn 56 [[D.list (List.map kcD B)]])))),(7,int ((List.map kcD l).length:Int)),(8,int (i:Int))],
  fun i=> [],fun i=>i≤l.length∧∀ (j:Nat) (y:KC),j< i→l[j]? =some y→noP B y=false,fun i=>l.length - i,0,?_,⟨Nat.zero_le _,fun j y h=>by omega⟩,fun i hs=> ?_⟩
 ·constructor<;>(repeat' (first|exact rfl|exact True.intro|exact⟨_,_,rfl⟩|exact(by decide)|apply And.intro))
  all_goals first|exact congrArg (fun n:Int=>D.v (.int .i64 n)) (by omega)|exact congrArg (fun n:Int=>D.v (.int .i64 n)) (by rw [wrap64 _ (by omega) (by omega)];omega)|(simp;done)
 obtain⟨g1,g2⟩:=hs
 refine⟨fun e1=> ?_,fun e1=> ?_⟩
 ·have f9:(i:Int)< ((List.map kcD l).length:Int):=of_decide_eq_true e1
  refine get_ex (l:=l) (i:=i) (by first|omega|exact Nat.mod_lt _ (by omega)) fun x14 hx14=> ?_
  refine k_ix i [D.v (.int .i64 (x14.1)),D.v (.int .i64 (x14.2))] (by first|rfl|omega|(rw [wrap64 _ (by omega) (by omega)];omega)|(rw [wrap64 _ (by omega) (by omega)];split<;>omega)) (Zm hx14) rfl ?_
  refine use (Zmr B x14 hB hBn) rfl ?_
  refine⟨fun e2=> ?_,fun e2=> ?_⟩
  ·have f16:noP B x14=true:=e2
   refine Eq.trans (b:=int (i:Int)) ?_ rfl
   rw [Zrh hx14 f16 g2]
  ·have f16:¬ (noP B x14=true):=(Bool.eq_false_iff.1 e2)
   refine⟨i+1,⟨by omega,fun j y hj hy=>by
    by_cases e:j=i
    ·subst e;rw [hx14] at hy;rw [← Option.some.inj hy];exact Bool.eq_false_iff.2 f16
    ·exact g2 j y (by omega) hy⟩,by simp only;omega,?_⟩
   constructor<;>(repeat' (first|exact rfl|exact True.intro|apply And.intro))
   all_goals first
    |exact congrArg (fun n:Int=>D.v (.int .i64 n)) (by rw [wrap64 _ (by omega) (by omega)];omega)
    |exact congrArg (fun n:Int=>D.v (.int .i64 n)) (by omega)
 ·have f9:¬ ((i:Int)< ((List.map kcD l).length:Int)):=of_decide_eq_false e1
  refine Eq.trans (b:=int (-1)) ?_ rfl
  rw [Zrg fun j y hy=>g2 j y (by have:=(List.getElem?_eq_some_iff.1 hy).1;omega) hy]
end
end Go.Proofs.YtiekmbmgpachpaaGreatDoor.eng
namespace Go.Proofs.YtiekmbmgpachpaaGreatDoor.eng
open Go.RowKit num mem seg q held ratA ratB ratC ratD ratE vars ratF prf
section
variable {K : AV → Prop}
theorem ZnC (B l:List KC) (hB:B.Pairwise kcLt) (hBn:B.length≤1048576) (hn:l.length≤1048576):Spec Tryz.prog Tab 55 [.val (.one (.d (.list (List.map kcD l)))),.val (.one (.d (.fn 56 [[D.list (List.map kcD B)]])))] (bool (decide (∃ c,c∈l∧¬ c∈B))):=by
 refine Zd Tryz.func55 rfl rfl Tryz.ntmps55 rfl (by kernel_rfl) rfl rfl ?_
 refine use (Zpt B l hB hBn hn) rfl ?_
 refine Eq.trans (b:=bool (decide (fiZ (noP B) l≥0))) ?_ rfl
 rw [show decide (fiZ (noP B) l≥0)=decide (∃ c,c∈l∧¬ c∈B) from decide_eq_decide.2 ?_]
 rcases ZlO (noP B) l with ⟨h,h2⟩|⟨i,x,h,h2,h3,_⟩
 ·rw [h];exact⟨fun g=>by omega,fun ⟨c,h3,h4⟩=>by have:=h2 c h3;unfold noP at this;simp at this;exact absurd this h4⟩
 ·rw [h];exact⟨fun _=>⟨x,List.mem_of_getElem? h2,by unfold noP at h3;simpa using h3⟩,fun _=>by omega⟩
theorem ZjO (a b:List KC) (hn:a.length≤1048576) (B:List KC) (hB:B.Pairwise kcLt) (hBn:B.length≤1048576) (hsB:Spec Tryz.prog Tab 54 [.val (.one (.d (.list (List.map kcL [b]))))] (.val (.one (.d (.list (List.map kcD B)))))):Spec Tryz.prog Tab 19 [.val (.one (.d (.list (List.map kcD a)))),.val (.one (.d (.list (List.map kcD b))))] (bool (!decide (∃ c,c∈a∧¬ c∈B))):=by
 refine Zd Tryz.func19 rfl rfl Tryz.ntmps19 rfl (by kernel_rfl) rfl rfl ?_
 refine use hsB rfl ?_
 refine⟨[(0,.val (.one (.d (.list (List.map kcD a))))),(3,.val (.one (.ref [D.list (List.map kcD B)])))], [],?_,?_⟩
 ·constructor<;>(repeat' (first|exact rfl|exact True.intro|exact⟨_,_,rfl⟩|exact(by decide)|apply And.intro))
 refine use (ZnC B a hB hBn hn) rfl ?_
 refine Eq.trans (b:=bool (!(decide (∃ c,c∈a∧¬ c∈B)))) ?_ rfl
 rfl
theorem withinZ {a b:List KC} (hb:0< b.length) (hna:a.length≤1048576) (hnb:b.length≤1048576):Spec Tryz.prog Tab 19 [.val (.one (.d (.list (List.map kcD a)))),.val (.one (.d (.list (List.map kcD b))))] (bool (!decide (∃ c,c∈a∧¬ c∈b))):=by
 obtain⟨B,b1,b2,b3,_,b5⟩:=sortedZ [b] (by simpa using hb) (by simpa using hnb) (by simp)
 simp only [List.flatten_cons,List.flatten_nil,List.append_nil] at b2 b3
 have h:=ZjO a b hna B b1 (by omega) b5
 rwa [show decide (∃ c,c∈a∧¬ c∈B)=decide (∃ c,c∈a∧¬ c∈b) from decide_eq_decide.2 (by simp only [b2])] at h
end
end Go.Proofs.YtiekmbmgpachpaaGreatDoor.eng
namespace Go.Proofs.YtiekmbmgpachpaaGreatDoor.eng
open Go.RowKit num mem seg q held ratA ratB ratC ratD ratE vars ratF trq
theorem Zpu (p q:Rat) (k:Int):qs (hpQ p q k)≤2*qs p+qs q+40:=by
 have h1:=Int.emod_nonneg k (show (9:Int)≠0 by decide)
 have h2:=Int.emod_lt_of_pos k (show (0:Int)< 9 by decide)
 have k1:=Zam (n:=k % 9) (by omega) (by omega)
 have k2:qs ((8:Int):Rat)≤8:=by decide+kernel
 have k3:=Zbg ((k % 9:Int):Rat) ((8:Int):Rat)
 have k4:=Zas q p
 have k5:=Zx (((k % 9:Int):Rat) / ((8:Int):Rat)) (q - p)
 have k6:=ZU p ((((k % 9:Int):Rat) / ((8:Int):Rat))*(q - p))
 unfold hpQ;omega
theorem Zn7 (x:Int):qs (ratM x)≤17:=by
 have hd:=Zhe x;have hm:=Zk0 x
 have k1:=Zam (n:=numM x) (by omega) (by omega)
 have k2:qs ((denM x:Nat):Rat)≤8:=Zam (n:=(denM x:Int)) (by omega) (by omega)
 have k3:=Zbg (numM x:Rat) (denM x:Rat)
 unfold ratM;omega
def boxU (l:List Int) (lo hi:Rat):Rat×Rat:=sjn (uF (polyM l) (cn lo) (cn hi)) (polyM l).length
def boxV (l:List Int) (lo hi:Rat):Rat×Rat:=sjn (vF (polyM l) (cn lo) (cn hi)) (polyM l).length
theorem Z4 (l:List Int):0< (polyM l).length∧(polyM l).length≤5:=by have:=ZfH l;rw [ZfG];omega
theorem Zgi (l:List Int) {lo hi:Rat} (h:lo≤hi):inS (-4,4) (boxU l lo hi)∧inS (-4,4) (boxV l lo hi):=
 ⟨Zb6 _ (fun _ _=>(ZjU l h _).1) (Z4 l).1,Zb6 _ (fun _ _=>(ZjU l h _).2) (Z4 l).1⟩
theorem Zma (l:List Int) (lo hi:Rat):sle (boxU l lo hi).1 (boxU l lo hi).2∧sle (boxV l lo hi).1 (boxV l lo hi).2:=
 ⟨Zdd (fun _=>ZnW (ZiF _ _) (ZhF _ _) _) _,Zdd (fun _=>ZnU (ZiF _ _) (ZhF _ _) _) _⟩
theorem ZnN (l:List Int) {lo hi lo' hi':Rat} (h1:lo≤lo') (h2:lo'≤hi') (h3:hi'≤hi):inS (boxU l lo hi) (boxU l lo' hi')∧inS (boxV l lo hi) (boxV l lo' hi'):=
 ⟨Zkh (fun i=>(ZnV (polyM l) h1 h2 h3 i).1) (Z4 l).1,Zkh (fun i=>(ZnV (polyM l) h1 h2 h3 i).2) (Z4 l).1⟩
theorem ZoA (l:List Int) {lo hi:Rat} (h1:qs lo≤1048576) (h2:qs hi≤1048576):(qs (boxU l lo hi).1≤67108864∧qs (boxU l lo hi).2≤67108864)∧qs (boxV l lo hi).1≤67108864∧qs (boxV l lo hi).2≤67108864:=
 ⟨ZmA (uF_z (Zdj l) (by rw [cn_z];exact h1) (by rw [cn_z];exact h2)) _,ZmA (vF_z (Zdj l) (by rw [cn_z];exact h1) (by rw [cn_z];exact h2)) _⟩
theorem turnedP (l:List Int) {lo hi:Rat} (h1:qs lo≤1048576) (h2:qs hi≤1048576):Spec Tryz.prog Tab 13 [vecs (polyM l),pair (cn lo) (cn hi)] (two (box (cn (boxU l lo hi).1) (cn (boxV l lo hi).1) (cn (boxU l lo hi).2) (cn (boxV l lo hi).2)) (int 0)):=by
 have h:=Zhn (polyM l) (cn lo) (cn hi) (Zdj l) (by have:=Z4 l;omega) (by rw [cn_z];exact h1) (by rw [cn_z];exact h2)
 have ht:tBx (polyM l) (cn lo) (cn hi)=((cn (boxU l lo hi).1,cn (boxU l lo hi).2),(cn (boxV l lo hi).1,cn (boxV l lo hi).2)):=by
  unfold tBx
  rw [if_pos (Zec l),Zns _ (Z4 l).1,Zns _ (Z4 l).1];rfl
 rw [ht,Zec l] at h
 exact h
def cellsQ (x y z t:Rat):List (Int×Int):=cellsL (ivl (c0 x) (c1 z)) (ivl (c0 y) (c1 t))
theorem gofN {x y z t:Rat} (hxz:x≤z) (hyt:y≤t) (h1:-4≤x) (h2:z≤4) (h3:-4≤y) (h4:t≤4) (z1:qs x≤67108864) (z2:qs y≤67108864) (z3:qs z≤67108864) (z4:qs t≤67108864):Spec Tryz.prog Tab 16 [box (cn x) (cn y) (cn z) (cn t)] (two (.val (.one (.d (.list (List.map kcD (cellsQ x y z t)))))) (int 0)):=by
 have h:=Zim (cn x) (cn y) (cn z) (cn t) (by rw [cn_z];omega) (by rw [cn_z];omega) (by rw [cn_z];omega) (by rw [cn_z];omega)
 have hn:=Zej (x:=cn x) (y:=cn y) (z:=cn z) (t:=cn t) (by rwa [cn_q,cn_q]) (by rwa [cn_q,cn_q]) (by rwa [cn_q]) (by rwa [cn_q]) (by rwa [cn_q]) (by rwa [cn_q])
 simp only [cn_q] at hn
 rw [hn] at h
 exact h
def turnP (l:List Int) (t:Rat):List (RV×RV):=(polyM l).map (movV z0 z0 false (cn t))
theorem Zaw (l:List Int) (t:Rat):(turnP l t).length=(polyM l).length:=List.length_map ..
theorem Zhu (l:List Int) (t:Rat) {i:Nat} (hi:i< (polyM l).length):(turnP l t)[i]? =some (cn ((ptAt (polyM l) i).1.q*cosq false t - (ptAt (polyM l) i).2.q*sinq t),cn ((ptAt (polyM l) i).1.q*sinq t+(ptAt (polyM l) i).2.q*cosq false t)):=by
 unfold turnP ptAt
 rw [List.getElem?_map,List.getElem?_eq_getElem hi]
 simp only [Option.map_some,Option.getD_some,movV,vtX,vtY,tq,cn_q,z0q,Rat.zero_add,Bool.false_eq_true,if_false]
theorem ZiX (l:List Int) (t:Rat):areaQ (turnP l t)=areaQ (polyM l):=by
 have hu:=ZjT false t
 unfold unitC at hu
 refine ZnP (c:=cosq false t) (s:=sinq t) (by simpa [tq] using hu) (Zaw l t) fun i hi=> ?_
 have h1:=Zhu l t hi
 unfold pts
 rw [h1]
 have h2:(polyM l)[i]? =some (ptAt (polyM l) i):=by unfold ptAt;rw [List.getElem?_eq_getElem hi];rfl
 rw [h2]
 simp only [Option.getD_some,cn_q,rotP]
 exact Prod.ext (by simp only;grind) (by simp only;grind)
end Go.Proofs.YtiekmbmgpachpaaGreatDoor.eng
namespace Go.Proofs.YtiekmbmgpachpaaGreatDoor.eng
open Go.RowKit num mem seg q held ratA ratB ratC ratD ratE vars ratF trq
theorem Zrv {Q:List (RV×RV)} (h:0< Q.length):((∃ p,p∈Q∧bx1 Q=p.1.q)∧(∃ p,p∈Q∧bx2 Q=p.2.q))∧((∃ p,p∈Q∧bx3 Q=p.1.q)∧∃ p,p∈Q∧bx4 Q=p.2.q)∧bx1 Q≤bx3 Q∧bx2 Q≤bx4 Q:=by
 cases Q with
 |nil=>simp at h
 |cons a r=>
  have hx:∀ q,q∈xsQ r→∃ p,p∈a :: r∧q=p.1.q:=fun q hq=>by
   obtain⟨p,hp,rfl⟩:=List.mem_map.1 hq;exact⟨p,List.mem_cons_of_mem _ hp,rfl⟩
  have hy:∀ q,q∈ysQ r→∃ p,p∈a :: r∧q=p.2.q:=fun q hq=>by
   obtain⟨p,hp,rfl⟩:=List.mem_map.1 hq;exact⟨p,List.mem_cons_of_mem _ hp,rfl⟩
  refine⟨⟨?_,?_⟩,⟨?_,?_⟩,Rat.le_trans (ZaJ _ _).1 (Z6 _ _).1,Rat.le_trans (ZaJ _ _).1 (Z6 _ _).1⟩
  ·rcases Zaj (xsQ r) a.1.q with g|g
   ·exact⟨a,List.mem_cons_self,g⟩
   ·exact hx _ g
  ·rcases Zaj (ysQ r) a.2.q with g|g
   ·exact⟨a,List.mem_cons_self,g⟩
   ·exact hy _ g
  ·rcases Z5 (xsQ r) a.1.q with g|g
   ·exact⟨a,List.mem_cons_self,g⟩
   ·exact hx _ g
  ·rcases Z5 (ysQ r) a.2.q with g|g
   ·exact⟨a,List.mem_cons_self,g⟩
   ·exact hy _ g
theorem ZaL {l:List Int} {t:Rat} {p:RV×RV} (h:p∈turnP l t):∃ i,i< (polyM l).length∧p.1.q=(ptAt (polyM l) i).1.q*cosq false t - (ptAt (polyM l) i).2.q*sinq t∧p.2.q=(ptAt (polyM l) i).1.q*sinq t+(ptAt (polyM l) i).2.q*cosq false t∧p.1.z=qs p.1.q∧p.2.z=qs p.2.q:=by
 obtain⟨i,hi⟩:=List.getElem?_of_mem h
 have hlt:i< (polyM l).length:=by rw [← Zaw l t];exact(List.getElem?_eq_some_iff.1 hi).1
 rw [Zhu l t hlt] at hi
 obtain rfl:=Option.some.inj hi
 exact⟨i,hlt,cn_q _,cn_q _,by rw [cn_q,cn_z],by rw [cn_q,cn_z]⟩
theorem ZcP {l:List Int} {lo hi t:Rat} (h1:lo≤t) (h2:t≤hi) {p:RV×RV} (h:p∈turnP l t):((boxU l lo hi).1≤p.1.q∧p.1.q≤(boxU l lo hi).2)∧(boxV l lo hi).1≤p.2.q∧p.2.q≤(boxV l lo hi).2:=by
 obtain⟨i,hlt,e1,e2,_⟩:=ZaL h
 have hlh:=Rat.le_trans h1 h2
 have c1:csT (cn lo) (cn hi)=cs3 lo hi:=by unfold csT;rw [ZA hlh,ZB hlh]
 have c2:snT (cn lo) (cn hi)=sn3 lo hi:=by unfold snT;rw [ZA hlh,ZB hlh]
 have kc:=Zhg h1 h2
 have ks:(sn3 lo hi).1≤sinq t∧sinq t≤(sn3 lo hi).2:=⟨Zke h1 h2,ZhG h1 h2⟩
 have ku:=ZoO kc ks (ptAt (polyM l) i)
 have kv:=ZoK kc ks (ptAt (polyM l) i)
 have ju:=ZeG (uF (polyM l) (cn lo) (cn hi)) _ i hlt
 have jv:=ZeG (vF (polyM l) (cn lo) (cn hi)) _ i hlt
 have eu:uF (polyM l) (cn lo) (cn hi) i=uAt (cs3 lo hi) (sn3 lo hi) (ptAt (polyM l) i):=by unfold uF;rw [c1,c2]
 have ev:vF (polyM l) (cn lo) (cn hi) i=vAt (cs3 lo hi) (sn3 lo hi) (ptAt (polyM l) i):=by unfold vF;rw [c1,c2]
 unfold inS at ju jv
 rw [eu] at ju
 rw [ev] at jv
 rw [e1,e2]
 exact⟨⟨Rat.le_trans ju.1 ku.1,Rat.le_trans ku.2 ju.2⟩,Rat.le_trans jv.1 kv.1,Rat.le_trans kv.2 jv.2⟩
theorem ZbJ {l:List Int} {t:Rat} (ht:qs t≤1048576):∀ p,p∈turnP l t→p.1.z≤67108864∧p.2.z≤67108864:=by
 intro p hp
 obtain⟨i,hlt,e1,e2,e3,e4⟩:=ZaL hp
 obtain⟨a,b,ha,hb,hab⟩:=Zdk (p:=ptAt (polyM l) i) (by unfold ptAt;rw [List.getElem?_eq_getElem hlt];exact List.getElem_mem _)
 have ka:=(Zea ha).2;have kb:=(Zea hb).2
 have q1:qs (ptAt (polyM l) i).1.q≤100:=by rw [hab];simp only [cn_q];exact ka
 have q2:qs (ptAt (polyM l) i).2.q≤100:=by rw [hab];simp only [cn_q];exact kb
 have kt:=ZkM t
 have m1:=Zx (ptAt (polyM l) i).1.q (cosq false t);have m2:=Zx (ptAt (polyM l) i).2.q (sinq t)
 have m3:=Zx (ptAt (polyM l) i).1.q (sinq t);have m4:=Zx (ptAt (polyM l) i).2.q (cosq false t)
 have s1:=Zas ((ptAt (polyM l) i).1.q*cosq false t) ((ptAt (polyM l) i).2.q*sinq t)
 have s2:=ZU ((ptAt (polyM l) i).1.q*sinq t) ((ptAt (polyM l) i).2.q*cosq false t)
 rw [e3,e4,e1,e2]
 omega
theorem ZpW (l:List Int) {lo hi t:Rat} (h1:lo≤t) (h2:t≤hi) (ht:qs t≤1048576):((boxU l lo hi).1≤bx1 (turnP l t)∧(boxV l lo hi).1≤bx2 (turnP l t))∧(bx3 (turnP l t)≤(boxU l lo hi).2∧bx4 (turnP l t)≤(boxV l lo hi).2)∧(bx1 (turnP l t)≤bx3 (turnP l t)∧bx2 (turnP l t)≤bx4 (turnP l t))∧
  (qs (bx1 (turnP l t))≤67108864∧qs (bx2 (turnP l t))≤67108864)∧qs (bx3 (turnP l t))≤67108864∧qs (bx4 (turnP l t))≤67108864:=by
 obtain⟨⟨⟨a,ha,ea⟩,b,hb,eb⟩,⟨⟨c,hc,ec⟩,d,hd,ed⟩,k1,k2⟩:=Zrv (Q:=turnP l t) (by rw [Zaw];exact(Z4 l).1)
 have za:=ZbJ ht a ha;have zb:=ZbJ ht b hb;have zc:=ZbJ ht c hc;have zd:=ZbJ ht d hd
 obtain⟨_,_,_,_,fa,_⟩:=ZaL ha
 obtain⟨_,_,_,_,_,fb⟩:=ZaL hb
 obtain⟨_,_,_,_,fc,_⟩:=ZaL hc
 obtain⟨_,_,_,_,_,fd⟩:=ZaL hd
 rw [ea,eb,ec,ed] at*
 exact⟨⟨(ZcP h1 h2 ha).1.1,(ZcP h1 h2 hb).2.1⟩,⟨(ZcP h1 h2 hc).1.2,(ZcP h1 h2 hd).2.2⟩,⟨k1,k2⟩,⟨by omega,by omega⟩,by omega,by omega⟩
theorem Zh4 {a b:Rat} (h:a≤b):minQ a b=a:=by unfold minQ;grind
theorem Zh5 {a b:Rat} (h:b≤a):maxQ a b=a:=by unfold maxQ;grind
theorem ZiJ {x y z t x' y' z' t':Rat} (h1:x≤x') (h2:z'≤z) (h3:y≤y') (h4:t'≤t):(!decide (∃ c,c∈cellsQ x' y' z' t'∧¬ c∈cellsQ x y z t))=true:=by
 rw [decide_eq_false fun ⟨c,hc,hn⟩=>hn (Zl8 h1 h2 h3 h4 c hc)];rfl
end Go.Proofs.YtiekmbmgpachpaaGreatDoor.eng
namespace Go.Proofs.YtiekmbmgpachpaaGreatDoor.eng
open Go.RowKit num mem seg q held ratA ratB ratC ratD ratE vars ratF prf natC natD natI sub32 trq
section
variable {K : AV → Prop}
theorem ZrC {i:Nat} (h:i< 5):([[D.v (.int .i64 0)], [D.v (.int .i64 0)], [D.v (.int .i64 0)], [D.v (.int .i64 0)], [D.v (.int .i64 0)]]:List (List D))[i]? =some [D.v (.int .i64 0)]:=by
 rcases i with _|_|_|_|_|i<;>first|rfl|omega
set_option maxHeartbeats 8000000 in
theorem Zcn (l:List Int) (hl:∀ x,x∈l→-9223372036854775808≤x∧x≤9223372036854775807) (x y i k:Int) (hx:-9223372036854775808≤x∧x≤9223372036854775807) (hy:-9223372036854775808≤y∧y≤9223372036854775807) (hi:-9223372036854775808≤i∧i≤9223372036854775807) (hk:-9223372036854775808≤k∧k≤9223372036854775807):Spec Tryz.prog Tab 3 [.val (.one (.d (.list (List.map stD l)))),int x,int y,int i,int k] (bool true):=by
 have hpl:=Z4 l
 refine Zd Tryz.func3 rfl rfl Tryz.ntmps3 rfl (by kernel_rfl) rfl rfl ?_
 refine use Zf3 rfl ?_
 refine⟨fun e=>absurd e (by decide),fun _=> ?_⟩
 refine use (Zmo l hl) rfl ?_
 refine use (Zgl x hx) rfl ?_
 have hrx:=Zn7 x
 refine use (Zgl y hy) rfl ?_
 have hry:=Zn7 y
 refine Zg4 (x:=cn (ratM x)) (y:=cn (ratM y)) (by simp only [cn_z];omega) (by simp only [cn_z];omega) fun q39 h39 z39=> ?_
 simp only [cn_z] at z39
 simp only [cn_q] at h39
 refine Zg5 (x:=cn (ratM x)) (y:=cn (ratM y)) (by simp only [cn_z];omega) (by simp only [cn_z];omega) fun q42 h42 z42=> ?_
 simp only [cn_z] at z42
 simp only [cn_q] at h42
 refine⟨by kernel_rfl,?_⟩
 refine use (ZbS q39 q42 i (by omega) (by omega) hi) rfl ?_
 have hz46:=Zpu q39 q42 i
 refine ZdT (x:=cn (hpQ q39 q42 i)) (by simp only [cn_z];omega) (fun q47 hk_47_1 hk_47_2=> ?_)
 try simp only [cn_q] at hk_47_1
 simp only [cn_z] at hk_47_2
 refine use (ZbS q39 q42 k (by omega) (by omega) hk) rfl ?_
 have hz50:=Zpu q39 q42 k
 refine ZdT (x:=cn (hpQ q39 q42 k)) (by simp only [cn_z];omega) (fun q51 hk_51_1 hk_51_2=> ?_)
 try simp only [cn_q] at hk_51_1
 simp only [cn_z] at hk_51_2
 refine Za1 (x:=cn q47) (y:=cn q47) (z:=cn q51) (t:=cn q51) (by simp only [cn_z];omega) (by simp only [cn_z];omega) (by simp only [cn_z];omega) (by simp only [cn_z];omega) (fun p52 q52 hk_52_2 hk_52_3 hk_52_4 hk_52_5=> ?_)
 try simp only [cn_q] at hk_52_2
 try simp only [cn_q] at hk_52_3
 simp only [cn_z] at hk_52_4
 simp only [cn_z] at hk_52_5
 have hlo:q39≤q42:=by rw [h39,h42];unfold minQ maxQ;grind
 have u1:=Zrc hlo i
 have u2:=Zrc hlo k
 have e52:p52=minQ (hpQ q39 q42 i) (hpQ q39 q42 k):=by rw [hk_52_2,ZA Rat.le_refl,ZA Rat.le_refl,hk_47_1,hk_51_1]
 have f52:q52=maxQ (hpQ q39 q42 i) (hpQ q39 q42 k):=by rw [hk_52_3,ZB Rat.le_refl,ZB Rat.le_refl,hk_47_1,hk_51_1]
 have s1:q39≤p52:=by rw [e52];unfold minQ;grind
 have s2:p52≤hpQ q39 q42 i:=by rw [e52];unfold minQ;grind
 have s3:hpQ q39 q42 i≤q52:=by rw [f52];unfold maxQ;grind
 have s4:q52≤q42:=by rw [f52];unfold maxQ;grind
 have s5:=Rat.le_trans s2 s3
 obtain⟨⟨nW1,nW3⟩,nW2,nW4⟩:=Zgi l hlo
 obtain⟨⟨nS1,nS3⟩,nS2,nS4⟩:=Zgi l s5
 obtain⟨oW1,oW2⟩:=Zma l q39 q42
 obtain⟨oS1,oS2⟩:=Zma l p52 q52
 obtain⟨⟨m1,m3⟩,m2,m4⟩:=ZnN l s1 s5 s4
 obtain⟨⟨zW1,zW3⟩,zW2,zW4⟩:=ZoA l (lo:=q39) (hi:=q42) (by omega) (by omega)
 obtain⟨⟨zS1,zS3⟩,zS2,zS4⟩:=ZoA l (lo:=p52) (hi:=q52) (by omega) (by omega)
 obtain⟨⟨b1,b2⟩,⟨b3,b4⟩,⟨oQ1,oQ2⟩,⟨zQ1,zQ2⟩,zQ3,zQ4⟩:=ZpW l s2 s3 (by omega)
 have nQ1:=Rat.le_trans nS1 b1
 have nQ2:=Rat.le_trans nS2 b2
 have nQ3:=Rat.le_trans b3 nS3
 have nQ4:=Rat.le_trans b4 nS4
 simp only at nW1 nW2 nW3 nW4 nS1 nS2 nS3 nS4 nQ1 nQ2 nQ3 nQ4
 have lQ:=Nat.le_trans (ZdH nQ1 nQ3 nQ2 nQ4) (show 100≤1048576 by decide)
 have lS:=Nat.le_trans (ZdH nS1 nS3 nS2 nS4) (show 100≤1048576 by decide)
 have lW:=Nat.le_trans (ZdH nW1 nW3 nW2 nW4) (show 100≤1048576 by decide)
 have lSp:=Zgh oS1 oS2
 have lWp:=Zgh oW1 oW2
 unfold sle at oW1 oW2 oS1 oS2
 refine⟨by kernel_rfl,?_⟩
 refine use (turnedP l (lo:=q39) (hi:=q42) (by omega) (by omega)) rfl ?_
 refine use (turnedP l (lo:=p52) (hi:=q52) (by omega) (by omega)) rfl ?_
 refine use (ZbS q39 q42 i (by omega) (by omega) hi) rfl ?_
 have hz67:=Zpu q39 q42 i
 refine Zno (x:=cn (hpQ q39 q42 i)) (by rw [cn_z];omega) fun q68 h68 z68=> ?_
 simp only [cn_q] at h68
 subst h68
 refine Zpq (x:=z0) (y:=z0) (h:=false) (z:=cn (hpQ q39 q42 i)) (polyM l) rfl (by rw [z0z];omega) (by rw [z0z];omega) (by rw [cn_z];omega) (fun p hp=>by have:=Zdj l p hp;omega) (by omega) ?_
 refine use (gofN (x:=(boxU l q39 q42).1) (y:=(boxV l q39 q42).1) (z:=(boxU l q39 q42).2) (t:=(boxV l q39 q42).2) (by assumption) (by assumption) nW1 nW3 nW2 nW4 (by omega) (by omega) (by omega) (by omega)) rfl ?_
 refine use (gofN (x:=(boxU l p52 q52).1) (y:=(boxV l p52 q52).1) (z:=(boxU l p52 q52).2) (t:=(boxV l p52 q52).2) (by assumption) (by assumption) nS1 nS3 nS2 nS4 (by omega) (by omega) (by omega) (by omega)) rfl ?_
 refine Zg1 (l:=turnP l (hpQ q39 q42 i)) (ZbJ (by omega)) (by rw [Zaw];omega) fun p84 q84 r84 u84 hp hq hr hu=> ?_
 subst hp hq hr hu
 refine use (gofN (x:=bx1 (turnP l (hpQ q39 q42 i))) (y:=bx2 (turnP l (hpQ q39 q42 i))) (z:=bx3 (turnP l (hpQ q39 q42 i))) (t:=bx4 (turnP l (hpQ q39 q42 i))) (by assumption) (by assumption) nQ1 nQ3 nQ2 nQ4 (by omega) (by omega) (by omega) (by omega)) rfl ?_
 refine⟨Nat,fun j=> [(11,.val (.one (.d (.list (List.map rdv (polyM l)))))),(16,.val (.one (.ptr 16 0))),(18,.val (.one (.ptr 18 0))),(20,.val (.one (.d (.list (List.map rdv (turnP l (hpQ q39 q42 i))))))),(21,.val (.one (.d (.list (List.map kcD (cellsQ ((boxU l q39 q42).1) ((boxV l q39 q42).1) ((boxU l q39 q42).2) ((boxV l q39 q42).2))))))),(23,.val (.one (.d (.list (List.map kcD (cellsQ ((boxU l p52 q52).1) ((boxV l p52 q52).1) ((boxU l p52 q52).2) ((boxV l p52 q52).2))))))),(25,.val (.one (.d (.list (List.map kcD (cellsQ (bx1 (turnP l (hpQ q39 q42 i))) (bx2 (turnP l (hpQ q39 q42 i))) (bx3 (turnP l (hpQ q39 q42 i))) (bx4 (turnP l (hpQ q39 q42 i))))))))),(93,.val (.one (.full ([[D.v (.int .i64 (0))], [D.v (.int .i64 (0))], [D.v (.int .i64 (0))], [D.v (.int .i64 (0))], [D.v (.int .i64 (0))]])))),(94,int 5),(95,int (j:Int))],
  fun j=> [(16,.var 38 [.d (.v (.bool (cn ((boxU l q39 q42).1)).s)),.d (.v (.string (cn ((boxU l q39 q42).1)).a)),.d (.v (.string (cn ((boxU l q39 q42).1)).d)),.d (.v (.bool (cn ((boxV l q39 q42).1)).s)),.d (.v (.string (cn ((boxV l q39 q42).1)).a)),.d (.v (.string (cn ((boxV l q39 q42).1)).d)),.d (.v (.bool (cn ((boxU l q39 q42).2)).s)),.d (.v (.string (cn ((boxU l q39 q42).2)).a)),.d (.v (.string (cn ((boxU l q39 q42).2)).d)),.d (.v (.bool (cn ((boxV l q39 q42).2)).s)),.d (.v (.string (cn ((boxV l q39 q42).2)).a)),.d (.v (.string (cn ((boxV l q39 q42).2)).d))]),(18,.var 38 [.d (.v (.bool (cn ((boxU l p52 q52).1)).s)),.d (.v (.string (cn ((boxU l p52 q52).1)).a)),.d (.v (.string (cn ((boxU l p52 q52).1)).d)),.d (.v (.bool (cn ((boxV l p52 q52).1)).s)),.d (.v (.string (cn ((boxV l p52 q52).1)).a)),.d (.v (.string (cn ((boxV l p52 q52).1)).d)),.d (.v (.bool (cn ((boxU l p52 q52).2)).s)),.d (.v (.string (cn ((boxU l p52 q52).2)).a)),.d (.v (.string (cn ((boxU l p52 q52).2)).d)),.d (.v (.bool (cn ((boxV l p52 q52).2)).s)),.d (.v (.string (cn ((boxV l p52 q52).2)).a)),.d (.v (.string (cn ((boxV l p52 q52).2)).d))])],fun j=>j≤5,fun j=>5 - j,0,?_,Nat.zero_le _,fun j hs=> ?_⟩
 ·constructor<;>(repeat' (first|exact rfl|exact True.intro|exact⟨_,_,rfl⟩|exact(by decide)|apply And.intro))
  all_goals first|exact congrArg (fun n:Int=>D.v (.int .i64 n)) (by omega)|exact congrArg (fun n:Int=>D.v (.int .i64 n)) (by rw [wrap64 _ (by omega) (by omega)];omega)|(simp;done)
 refine⟨fun e1=> ?_,fun e1=> ?_⟩
 ·have f96:(j:Int)< 5:=of_decide_eq_true e1
  refine k_ix j [D.v (.int .i64 (0))] (by first|rfl|omega|(rw [wrap64 _ (by omega) (by omega)];omega)|(rw [wrap64 _ (by omega) (by omega)];split<;>omega)) (ZrC (by omega)) rfl ?_
  refine⟨fun e=>absurd e (by decide),fun _=> ?_⟩
  refine⟨j+1,by omega,by simp only;omega,?_⟩
  constructor<;>(repeat' (first|exact rfl|exact True.intro|apply And.intro))
  all_goals first
   |exact congrArg (fun n:Int=>D.v (.int .i64 n)) (by rw [wrap64 _ (by omega) (by omega)];omega)
   |exact congrArg (fun n:Int=>D.v (.int .i64 n)) (by omega)
 ·have f96:¬ ((j:Int)< 5):=of_decide_eq_false e1
  have hb104:=Zeu (cn ((boxU l q39 q42).1)) (cn ((boxV l q39 q42).1)) (cn ((boxU l q39 q42).2)) (cn ((boxV l q39 q42).2)) (cn ((boxU l p52 q52).1)) (cn ((boxV l p52 q52).1)) (cn ((boxU l p52 q52).2)) (cn ((boxV l p52 q52).2)) (by rw [cn_z];omega) (by rw [cn_z];omega) (by rw [cn_z];omega) (by rw [cn_z];omega) (by rw [cn_z];omega) (by rw [cn_z];omega) (by rw [cn_z];omega) (by rw [cn_z];omega)
  simp only [cn_q] at hb104
  rw [Zh4 m1,Zh4 m2,Zh5 m3,Zh5 m4] at hb104
  refine use hb104 rfl ?_
  refine Zds ⟨rfl,rfl,rfl,rfl⟩ ?_
  refine Zg1 (l:=turnP l (hpQ q39 q42 i)) (ZbJ (by omega)) (by rw [Zaw];omega) fun p110 q110 r110 u110 hp hq hr hu=> ?_
  subst hp hq hr hu
  have hb111:=Zeu (cn ((boxU l p52 q52).1)) (cn ((boxV l p52 q52).1)) (cn ((boxU l p52 q52).2)) (cn ((boxV l p52 q52).2)) (cn (bx1 (turnP l (hpQ q39 q42 i)))) (cn (bx2 (turnP l (hpQ q39 q42 i)))) (cn (bx3 (turnP l (hpQ q39 q42 i)))) (cn (bx4 (turnP l (hpQ q39 q42 i)))) (by rw [cn_z];omega) (by rw [cn_z];omega) (by rw [cn_z];omega) (by rw [cn_z];omega) (by rw [cn_z];omega) (by rw [cn_z];omega) (by rw [cn_z];omega) (by rw [cn_z];omega)
  simp only [cn_q] at hb111
  rw [Zh4 b1,Zh4 b2,Zh5 b3,Zh5 b4] at hb111
  refine use hb111 rfl ?_
  refine Zds ⟨rfl,rfl,rfl,rfl⟩ ?_
  have hw118:=withinZ (a:=cellsQ (bx1 (turnP l (hpQ q39 q42 i))) (bx2 (turnP l (hpQ q39 q42 i))) (bx3 (turnP l (hpQ q39 q42 i))) (bx4 (turnP l (hpQ q39 q42 i)))) (b:=cellsQ ((boxU l p52 q52).1) ((boxV l p52 q52).1) ((boxU l p52 q52).2) ((boxV l p52 q52).2)) lSp lQ lS
  rw [ZiJ b1 b3 b2 b4] at hw118
  refine use hw118 rfl ?_
  have hw123:=withinZ (a:=cellsQ ((boxU l p52 q52).1) ((boxV l p52 q52).1) ((boxU l p52 q52).2) ((boxV l p52 q52).2)) (b:=cellsQ ((boxU l q39 q42).1) ((boxV l q39 q42).1) ((boxU l q39 q42).2) ((boxV l q39 q42).2)) lWp lS lW
  rw [ZiJ m1 m3 m2 m4] at hw123
  refine use hw123 rfl ?_
  refine Zg2 (l:=turnP l (hpQ q39 q42 i)) (ZbJ (by omega)) (by first|omega|(rw [Zaw];omega)) fun q127 hq127=> ?_
  refine Zg2 (l:=polyM l) (fun p hp=>by have:=Zdj l p hp;omega) (by first|omega|(rw [Zaw];omega)) fun q129 hq129=> ?_
  refine Zdr (by rw [hq127,hq129,ZiX]) ?_
  refine⟨by kernel_rfl,?_⟩
  refine Eq.trans (b:=bool true) ?_ rfl
  rfl
theorem turningCells_walk (v0:Value) (l:List Int) (x y i k:Int) (N:Nat) (w:World) (_:1≤N) (_:N≤1048576)
  (h0:Den w (fun b=>b< w.heap.size) v0 (.list (l.map intD))) (l2:argopen.intsZ l N)
  (hx:-9223372036854775808≤x∧x≤9223372036854775807) (hy:-9223372036854775808≤y∧y≤9223372036854775807) (hi:-9223372036854775808≤i∧i≤9223372036854775807) (hk:-9223372036854775808≤k∧k≤9223372036854775807) (hT:Tab w):
  Calls Tryz.prog 3 #[v0,.int .i64 x,.int .i64 y,.int .i64 i,.int .i64 k] w fun e w'=>e= .returned (.bool true)∧Below w.heap.size w w':=
 ZdW (I:=fun b=>b< w.heap.size) (Zcn l l2.2 x y i k hx hy hi hk) rfl hT (fun _ h=>h)
  ((ZgM (vs:= [int x,int y,int i,int k]) rfl).cons (show DenAV _ _ _ _ v0 (.val (.one (.d (.list _)))) from h0))
end
end Go.Proofs.YtiekmbmgpachpaaGreatDoor.eng
