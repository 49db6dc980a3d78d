/- Joined by wip/bundle.py: XEngFl XSmall XArm0. -/
import Derived.Test.YtjlhknppkodilaaGreatDoorGrpEn
import Derived.Test.YtjlhknppkodilaaGreatDoorGrpP
namespace Go.Proofs.YtjlhknppkodilaaGreatDoor.eng
open Go.RowKit num mem seg q held ratA ratB ratC ratD ratE vars ratF natC natD natI
def str (s:ByteArray):AV:= .val (.one (.d (.v (.string s))))
section
variable {x y : RV} {K : AV → Prop} {a b : ByteArray} {n m : Nat}
theorem ZmU (n:Int) (h:n≤9223372036854775807):Spec Tryz.prog Tab 59 [int n] (str (enc n.toNat)):=
 Zu (Zt Tryz.func59 rfl rfl) rfl rfl fun w _=>(Zmf n w h).mono fun _ _ h=>h
theorem Zpv {n:Int} (h:n≤9223372036854775807) (k:K (str (enc n.toNat))):Ask 59 [int n] K:=use (ZmU n h) rfl k
theorem Znj (x:RV) (hx:x.z≤17592186044416):Spec Tryz.prog Tab 35 [rat x] (rat (cn x.q)):=by
 refine Zu (Zt Tryz.func35 rfl rfl) rfl rfl fun w hT=> ?_
 obtain⟨h1,h2⟩:=ZV hx
 refine(Zaw x.s x.a x.d w h1 h2 hT).mono fun e w' ⟨u,c,f,he,hi,hb⟩=> ?_
 obtain⟨rfl,rfl,rfl⟩:=Zgi hi
 exact⟨he,hb⟩
theorem Zp8 (hx:x.z≤17592186044416) (k:∀ q,q=x.q→(cn q).z≤x.z+1→K (rat (cn q))):Ask 35 [rat x] K:=use (Znj x hx) rfl (k _ rfl (by have:=x.z1;rw [cn_z];omega))
theorem ZkV (ox oy:Operand) (s t:ByteArray) (w:World):(do eqGuard .neq 9 ox oy (.string s) (.string t);binOp .neq 9 (.string s) (.string t):Sem Value).run Tryz.prog w= .ok (.bool (!decide (s=t))) w:=by
 by_cases H:s=t
 ·obtain rfl:=H;simp [go_sem]
 ·rw [decide_eq_false H];simp [go_sem,Zl5,H]
theorem ZlH (ox oy:Operand) (s t:ByteArray) (w:World):(do eqGuard .eql 9 ox oy (.string s) (.string t);binOp .eql 9 (.string s) (.string t):Sem Value).run Tryz.prog w= .ok (.bool (decide (s=t))) w:=by
 by_cases H:s=t
 ·obtain rfl:=H;simp [go_sem]
 ·rw [decide_eq_false H];simp [go_sem,Zl5,H]
theorem Zas {ox oy:Operand} {s t:ByteArray} (k1:s=t→K (bool false)) (k0:¬ s=t→K (bool true)):AskB .neq 9 ox oy (.string s) (.string t) K:=by
 by_cases H:s=t
 ·exact useB (fun w=>by have:=ZkV ox oy s t w;rw [decide_eq_true H] at this;exact this) (k1 H)
 ·exact useB (fun w=>by have:=ZkV ox oy s t w;rw [decide_eq_false H] at this;exact this) (k0 H)
theorem Zb8 {ox oy:Operand} {s t:ByteArray} (k1:s=t→K (bool true)) (k0:¬ s=t→K (bool false)):AskB .eql 9 ox oy (.string s) (.string t) K:=by
 by_cases H:s=t
 ·exact useB (fun w=>by have:=ZlH ox oy s t w;rw [decide_eq_true H] at this;exact this) (k1 H)
 ·exact useB (fun w=>by have:=ZlH ox oy s t w;rw [decide_eq_false H] at this;exact this) (k0 H)
end
end Go.Proofs.YtjlhknppkodilaaGreatDoor.eng
namespace Go.Proofs.YtjlhknppkodilaaGreatDoor.eng
open Go.RowKit num mem seg q held ratA ratB ratC ratD ratE vars ratF natC natD natI
section
variable {K : AV → Prop} {a b : ByteArray} {x y r t : RV} {p q : Rat}
theorem Zk0 (a b:ByteArray):Spec Tryz.prog Tab 36 [str a,str b] (int (cmpN (nv a) (nv b))):=
 Zu (Zt Tryz.func36 rfl rfl) rfl rfl fun w _=>(ZcY a b w).mono fun _ _ h=>⟨h.1,h.2 ▸ Below.refl _ _⟩
theorem ZnO (n m:Nat) (ha:nv a=n) (hb:nv b=m) (k:∀ c,c=cmpN n m→K (int c)):Ask 36 [str a,str b] K:=by
 subst ha hb;exact use (Zk0 a b) rfl (k _ rfl)
theorem Zhs {a b:Nat}:cmpN a b≤0↔a≤b:=by
 unfold cmpN
 split
 ·omega
 ·split<;>omega
def smallP (x:RV):Prop:=x.good∧nv x.a≤1000000∧nv x.d≤1000
instance (x:RV):Decidable (smallP x):=by unfold smallP;infer_instance
set_option maxRecDepth 100000 in
theorem ZoA (hx:x.z≤4398046511104) (k:K (bool (decide (smallP x)))):Ask 93 [rat x] K:=by
 refine use (r:=bool (decide (smallP x))) ?_ rfl k
 have bad:¬ smallP x→bool (decide (smallP x))=bool false:=fun h=>by rw [decide_eq_false h]
 have len:∀ (s:ByteArray) (m j:Nat),enc (nv s)=s→nv s≤m→m< 256 ^ j→s.size≤j:=by
  intro s m j h1 h2 h3
  rw [← h1]
  exact Zl.2 (by omega)
 refine Zf Tryz.func93 rfl rfl Tryz.ntmps93 rfl (by kernel_rfl) rfl rfl ?_
 refine fork (fun e1=> ?_) (fun e1=> ?_)
 ·refine fork (fun e2=> ?_) (fun e2=> ?_)
  ·refine Zpx (by omega) fun g hg=> ?_
   cases g with
   |true=>
    have hgood:x.good:=of_decide_eq_true hg.symm
    refine Zpv (n:=1000000) (by omega) ?_
    refine ZnO (nv x.a) 1000000 rfl (Zi _) fun c1 h1=> ?_
    refine fork (fun e3=> ?_) (fun e3=> ?_)
    ·have g1:nv x.a≤1000000:=Zhs.1 (by rw [← h1];exact of_decide_eq_true e3)
     refine Zpv (n:=1000) (by omega) ?_
     refine ZnO (nv x.d) 1000 rfl (Zi _) fun c2 h2=> ?_
     refine⟨by kernel_rfl,?_⟩
     refine Eq.trans (b:=bool (decide (c2≤0))) ?_ rfl
     congr 1
     rw [decide_eq_decide,h2,Zhs]
     exact⟨fun h=>h.2.2,fun h=>⟨hgood,g1,h⟩⟩
    ·refine⟨by kernel_rfl,?_⟩
     refine Eq.trans (bad fun h=>of_decide_eq_false e3 ?_) rfl
     rw [h1];exact Zhs.2 h.2.1
   |false=>
    refine⟨by kernel_rfl,?_⟩
    exact Eq.trans (bad fun h=>of_decide_eq_false hg.symm h.1) rfl
  ·refine⟨by kernel_rfl,?_⟩
   refine Eq.trans (bad fun h=>of_decide_eq_false e2 ?_) rfl
   have:=len x.d 1000 2 h.1.2.1 h.2.2 (by decide)
   show ((x.d.size:Nat):Int)≤2
   omega
 ·refine⟨by kernel_rfl,?_⟩
  refine Eq.trans (bad fun h=>of_decide_eq_false e1 ?_) rfl
  have:=len x.a 1000000 3 h.1.1 h.2.1 (by decide)
  show ((x.a.size:Nat):Int)≤3
  omega
end
end Go.Proofs.YtjlhknppkodilaaGreatDoor.eng
namespace Go.Proofs.YtjlhknppkodilaaGreatDoor.eng
open Go.RowKit num mem seg q held ratA ratB ratC ratD ratE vars ratF
structure LinkV where
 len:RV
 low:RV
 high:RV
 speed:RV
 brake:RV
 shape:List (RV×RV)
structure ArmV where
 name:ByteArray
 bx:RV
 by':RV
 bh:Bool
 bt:RV
 links:List LinkV
def lk (x:LinkV):List D:=rd x.len++rd x.low++rd x.high++rd x.speed++rd x.brake++ [D.list (List.map rdv x.shape)]
def arm (a:ArmV):AV:= .val (.agg [.d (.v (.string a.name)),.d (.v (.bool a.bx.s)),.d (.v (.string a.bx.a)),.d (.v (.string a.bx.d)),.d (.v (.bool a.by'.s)),.d (.v (.string a.by'.a)),.d (.v (.string a.by'.d)),.d (.v (.bool a.bh)),.d (.v (.bool a.bt.s)),.d (.v (.string a.bt.a)),.d (.v (.string a.bt.d)),.d (.list (List.map lk a.links))])
def LinkV.zs (l:LinkV) (B:Nat):Prop:=l.len.z≤B∧l.low.z≤B∧l.high.z≤B∧l.speed.z≤B∧l.brake.z≤B∧l.shape.length≤B∧∀ p,p∈l.shape→p.1.z≤B∧p.2.z≤B
def ArmV.zs (a:ArmV) (B:Nat):Prop:=a.name.size≤B∧a.bx.z≤B∧a.by'.z≤B∧a.bt.z≤B∧a.links.length≤B∧∀ l,l∈a.links→l.zs B
def nameOk (s:ByteArray):Bool:=decide (1≤s.size)&&(decide (s.size≤12)&&s.data.toList.all fun c=>decide (97≤c.toNat)&&decide (c.toNat≤122))
def linkBad (l:LinkV):Prop:=¬ smallP l.len∨¬ smallP l.low∨¬ smallP l.high∨¬ smallP l.speed∨¬ smallP l.brake∨l.len.q≤0∨l.high.q≤l.low.q∨l.speed.q≤0∨l.brake.q≤0
def shapeBad (l:LinkV):Prop:=∃ p,p∈l.shape∧¬ (smallP p.1∧smallP p.2)
open Classical in
noncomputable def linkE (l:LinkV):Int:=if linkBad l then 1 else if convE 8 l.shape=0 then (if shapeBad l then 1 else 0) else convE 8 l.shape
noncomputable def linksE:List LinkV→Int
 | []=>0
 |l :: r=>if linkE l=0 then linksE r else linkE l
def baseBad (a:ArmV):Prop:=a.links.length=0∨¬ smallP a.bx∨¬ smallP a.by'∨¬ smallP a.bt∨(a.bh=true∧a.bt.q≠0)
open Classical in
noncomputable def armE (a:ArmV):Int:=if nameOk a.name=true then (if 3< a.links.length then 2 else if baseBad a then 1 else linksE a.links) else 3
noncomputable def hasE (a:ArmV) (n:Int):Int:=if armE a=0 then (if n=(a.links.length:Int) then 0 else 1) else armE a
def farQ (a:ArmV) (q:List RV):Prop:=∃ (i:Nat) (l:LinkV) (x:RV),a.links[i]? =some l∧q[i]? =some x∧(x.q< l.low.q∨l.high.q< x.q)
open Classical in
noncomputable def fitsE (a:ArmV) (q:List RV):Int:=if hasE a (q.length:Int)=0 then (if farQ a q then 17 else 0) else hasE a (q.length:Int)
theorem Zjb {ls:List LinkV} (h:linksE ls=0):∀ l,l∈ls→linkE l=0:=by
 induction ls with
 |nil=>intro l hl;simp at hl
 |cons a r ih=>
  intro l hl
  unfold linksE at h
  by_cases e:linkE a=0
  ·rw [if_pos e] at h
   rcases List.mem_cons.1 hl with rfl|hl
   ·exact e
   ·exact ih h l hl
  ·rw [if_neg e] at h;exact absurd h e
theorem Zo {ls:List LinkV} {i:Nat} {l:LinkV} (h:ls[i]? =some l) (hb:∀ (j:Nat) (m:LinkV),j< i→ls[j]? =some m→linkE m=0) (hl:linkE l≠0):linksE ls=linkE l:=by
 induction ls generalizing i with
 |nil=>simp at h
 |cons a r ih=>
  cases i with
  |zero=>
   obtain rfl:=Option.some.inj (show some a=some l from h)
   unfold linksE;rw [if_neg hl]
  |succ i=>
   have h0:=hb 0 a (by omega) rfl
   unfold linksE;rw [if_pos h0]
   exact ih (by simpa using h) fun j m hj hm=>hb (j+1) m (by omega) (by simpa using hm)
theorem Zct {ls:List LinkV} (h:∀ (j:Nat) (m:LinkV),ls[j]? =some m→linkE m=0):linksE ls=0:=by
 induction ls with
 |nil=>rfl
 |cons a r ih=>
  unfold linksE
  rw [if_pos (h 0 a rfl)]
  exact ih fun j m hm=>h (j+1) m (by simpa using hm)
theorem Zff {a:ArmV} {n:Int}:hasE a n=0↔armE a=0∧n=(a.links.length:Int):=by
 unfold hasE
 by_cases h:armE a=0
 ·by_cases g:n=(a.links.length:Int)<;>simp [h,g]
 ·simp [h]
theorem Zfq {a:ArmV} (h:armE a=0):a.links.length≤3∧a.links≠ []∧smallP a.bx∧smallP a.by'∧smallP a.bt∧(a.bh=true→a.bt.q=0)∧∀ l,l∈a.links→linkE l=0:=by
 unfold armE at h
 by_cases c1:nameOk a.name=true
 ·rw [if_pos c1] at h
  by_cases c2:3< a.links.length
  ·rw [if_pos c2] at h;exact absurd h (by decide)
  ·rw [if_neg c2] at h
   by_cases c3:baseBad a
   ·rw [if_pos c3] at h;exact absurd h (by decide)
   ·rw [if_neg c3] at h
    refine⟨by omega,fun e=>c3 (.inl (by rw [e];rfl)),?_,?_,?_,?_,Zjb h⟩
    ·exact Classical.byContradiction fun e=>c3 (.inr (.inl e))
    ·exact Classical.byContradiction fun e=>c3 (.inr (.inr (.inl e)))
    ·exact Classical.byContradiction fun e=>c3 (.inr (.inr (.inr (.inl e))))
    ·exact fun hb=>Classical.byContradiction fun e=>c3 (.inr (.inr (.inr (.inr ⟨hb,e⟩))))
 ·rw [if_neg c1] at h;exact absurd h (by decide)
theorem Zia {l:LinkV} (h:linkE l=0):¬ linkBad l∧convE 8 l.shape=0∧¬ shapeBad l:=by
 unfold linkE at h
 by_cases c1:linkBad l
 ·rw [if_pos c1] at h;exact absurd h (by decide)
 ·rw [if_neg c1] at h
  by_cases c2:convE 8 l.shape=0
  ·rw [if_pos c2] at h
   by_cases c3:shapeBad l
   ·rw [if_pos c3] at h;exact absurd h (by decide)
   ·exact⟨c1,c2,c3⟩
  ·rw [if_neg c2] at h;exact absurd h c2
end Go.Proofs.YtjlhknppkodilaaGreatDoor.eng
