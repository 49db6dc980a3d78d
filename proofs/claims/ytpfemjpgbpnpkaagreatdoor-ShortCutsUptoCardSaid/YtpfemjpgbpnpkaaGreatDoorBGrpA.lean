/- Joined by wip/bundle.py: XEngFl XSmall XArm0. -/
import Derived.Test.YtpfemjpgbpnpkaaGreatDoorBEngU
import Derived.Test.YtpfemjpgbpnpkaaGreatDoorBGrpP
set_option maxRecDepth 100000
namespace Go.Proofs.YtpfemjpgbpnpkaaGreatDoor.eng
open Go.RowKit num mem seg q held ratA ratB ratC ratD ratE vars ratF natC natD natI
def str (s:ByteArray):AV:= .val (.one (.d (.v (.string s))))
section
variable {x y : RV} {K : AV → Prop} {a b : ByteArray} {n m : Nat}
theorem Zm0 (a b:ByteArray) (ha:a.size≤35184372088832) (hb:b.size≤35184372088832) (h0:0< nv b):Spec Tryz.prog Tab 216 [str a,str b] (.tup [.one (.d (.v (.string (enc (nv a / nv b))))),.one (.d (.v (.string (enc (nv a % nv b))))),.one (.d (.v (.int .i64 0)))]):=
 Zp (Zt Tryz.func216 rfl rfl) rfl rfl fun w _=>(Zgm a b w ha hb h0).mono fun _ _ h=>h
theorem ZqU (ha:a.size≤35184372088832) (hb:b.size≤35184372088832) (h0:0< nv b) (k:K (.tup [.one (.d (.v (.string (enc (nv a / nv b))))),.one (.d (.v (.string (enc (nv a % nv b))))),.one (.d (.v (.int .i64 0)))])):Ask 216 [str a,str b] K:=
 use (Zm0 a b ha hb h0) rfl k
theorem Zm2 (a b:ByteArray) (ha:a.size≤70368744177663) (hb:b.size≤70368744177663):Spec Tryz.prog Tab 194 [str a,str b] (str (enc (nv a+nv b))):=
 Zp (Zt Tryz.func194 rfl rfl) rfl rfl fun w _=>(Add_any a b w ha hb).mono fun _ _ h=>h
theorem Ztm (ha:a.size≤70368744177663) (hb:b.size≤70368744177663) (k:K (str (enc (nv a+nv b)))):Ask 194 [str a,str b] K:=
 use (Zm2 a b ha hb) rfl k
theorem ZpB (n:Int) (h:n≤9223372036854775807):Spec Tryz.prog Tab 193 [int n] (str (enc n.toNat)):=
 Zp (Zt Tryz.func193 rfl rfl) rfl rfl fun w _=>(ZoK n w h).mono fun _ _ h=>h
theorem ZrV {n:Int} (h:n≤9223372036854775807) (k:K (str (enc n.toNat))):Ask 193 [int n] K:=use (ZpB n h) rfl k
theorem Znd (s:Bool) (n d:Nat) (hn:(enc n).size≤17592186044416) (hd:(enc d).size≤17592186044416) (h0:0< d):Spec Tryz.prog Tab 139 [bool s,str (enc n),str (enc d)] (rat (cn (mkRat (sg s n) d))):=by
 refine Zp (Zt Tryz.func139 rfl rfl) rfl rfl fun w hT=> ?_
 refine(Zb1 s n d w hn hd h0 hT).mono fun e w' ⟨u,c,f,he,hi,hb⟩=> ?_
 obtain⟨rfl,rfl,rfl⟩:=ZeJ hi
 exact⟨he,hb⟩
theorem ZjD {s:Bool} (n d:Nat) (ha:a=enc n) (hb:b=enc d) (hn:(enc n).size≤17592186044416) (hd:(enc d).size≤17592186044416) (h0:0< d) (k:K (rat (cn (mkRat (sg s n) d)))):Ask 139 [bool s,str a,str b] K:=by
 subst ha hb
 exact use (Znd s n d hn hd h0) rfl k
theorem ZmX (ox oy:Operand) (s t:ByteArray) (w:World):(do eqGuard .neq 9 ox oy (.string s) (.string t);binOp .neq 9 (.string s) (.string t):Sem Value).run Tryz.prog w= .ok (.bool (!decide (s=t))) w:=by
 by_cases H:s=t
 ·obtain rfl:=H;simp [go_sem]
 ·rw [decide_eq_false H];simp [go_sem,Zos,H]
theorem ZnX (ox oy:Operand) (s t:ByteArray) (w:World):(do eqGuard .eql 9 ox oy (.string s) (.string t);binOp .eql 9 (.string s) (.string t):Sem Value).run Tryz.prog w= .ok (.bool (decide (s=t))) w:=by
 by_cases H:s=t
 ·obtain rfl:=H;simp [go_sem]
 ·rw [decide_eq_false H];simp [go_sem,Zos,H]
theorem Zae {ox oy:Operand} {s t:ByteArray} (k1:s=t→K (bool false)) (k0:¬ s=t→K (bool true)):AskB .neq 9 ox oy (.string s) (.string t) K:=by
 by_cases H:s=t
 ·exact useB (fun w=>by have:=ZmX ox oy s t w;rw [decide_eq_true H] at this;exact this) (k1 H)
 ·exact useB (fun w=>by have:=ZmX ox oy s t w;rw [decide_eq_false H] at this;exact this) (k0 H)
theorem Zcr {ox oy:Operand} {s t:ByteArray} (k1:s=t→K (bool true)) (k0:¬ s=t→K (bool false)):AskB .eql 9 ox oy (.string s) (.string t) K:=by
 by_cases H:s=t
 ·exact useB (fun w=>by have:=ZnX ox oy s t w;rw [decide_eq_true H] at this;exact this) (k1 H)
 ·exact useB (fun w=>by have:=ZnX ox oy s t w;rw [decide_eq_false H] at this;exact this) (k0 H)
def upN (s:Bool) (n m:Nat):Nat:=if s=true∧n % m≠0 then n / m+1 else n / m
theorem Zsw (s:Bool) (n m:Nat) (hm:0< m):sg s (upN s n m)=sg s n / (m:Int):=by
 unfold upN
 cases s with
 |false=>rw [if_neg (by simp)];exact Int.natCast_ediv n m
 |true=>
  have hm':(0:Int)< (m:Int):=by omega
  have e:=Nat.div_add_mod n m
  have e':(m:Int)*((n / m:Nat):Int)+((n % m:Nat):Int)=(n:Int):=by rw [← Int.natCast_mul,← Int.natCast_add,e]
  have hlt:=Nat.mod_lt n hm
  by_cases hr:n % m=0
  ·rw [if_neg (by simp [hr])]
   refine((Int.ediv_emod_unique hm' (q:=-((n / m:Nat):Int)) (r:=0)).2 ⟨?_,by omega,hm'⟩).1.symm
   show 0+(m:Int)* -((n / m:Nat):Int)=-(n:Int)
   rw [Int.mul_neg];omega
  ·rw [if_pos ⟨rfl,hr⟩]
   refine((Int.ediv_emod_unique hm' (q:=-((n / m+1:Nat):Int)) (r:=(m:Int) - ((n % m:Nat):Int))).2 ⟨?_,by omega,by omega⟩).1.symm
   show (m:Int) - ((n % m:Nat):Int)+(m:Int)* -((n / m+1:Nat):Int)=-(n:Int)
   rw [Int.mul_neg,Int.natCast_add,Int.mul_add];simp only [Int.natCast_one,Int.mul_one];omega
theorem Zsv (s:Bool) (n m:Nat):upN s n m≤n+1:=by
 unfold upN
 have:=Nat.div_le_self n m
 split<;>omega
theorem Zex:(enc 1).size=1:=by rw [Zbx];rfl
theorem Zfy (s:Bool) (n m:Nat):(enc (upN s n m)).size≤(enc n).size+2:=by
 have h1:=ZaB (Zsv s n m)
 have h2:(enc (n+1)).size≤((enc n).size+1)+1:=Zdh (a:=n) (b:=1) (k:=(enc n).size+1) (by omega) (by rw [Zex];omega)
 omega
theorem Zev {n:Nat}:enc n=⟨#[]⟩↔n=0:=by
 constructor
 ·intro h
  have:=Zd n
  rw [h] at this
  rw [← this];exact Za7
 ·intro h;subst h;exact ZO
theorem Zka (s:Bool) (n m:Nat) (hm0:0< m) (hn:(enc n).size≤8796093022208) (hm:(enc m).size≤8796093022208):Spec Tryz.prog Tab 223 [rat ⟨s,enc n,enc m⟩] (rat (cn (mkRat (sg s (upN s n m)) 1))):=by
 have h1:(enc (n / m)).size≤8796093022208:=Nat.le_trans (ZaB (Nat.div_le_self n m)) hn
 have hup:=Zfy s n m
 have hs1:(enc 1).size≤17592186044416:=by rw [Zex];omega
 cases s
 ·refine Za Tryz.func223 rfl rfl Tryz.ntmps223 rfl (by kernel_rfl) rfl rfl ?_
  refine ZqU (a:=enc n) (b:=enc m) (by omega) (by omega) (by rw [Zd];exact hm0) ?_
  refine⟨fun e=>by simp at e,fun _=> ?_⟩
  refine ZjD (n / m) 1 (by rw [Zd,Zd]) Zbx.symm (by omega) hs1 Nat.one_pos ?_
  exact rfl
 ·refine Za Tryz.func223 rfl rfl Tryz.ntmps223 rfl (by kernel_rfl) rfl rfl ?_
  refine ZqU (a:=enc n) (b:=enc m) (by omega) (by omega) (by rw [Zd];exact hm0) ?_
  rw [Zd,Zd]
  refine Zae (fun e=> ?_) (fun e=> ?_)
  ·refine⟨fun e=>by simp at e,fun _=> ?_⟩
   refine ZjD (n / m) 1 rfl Zbx.symm (by omega) hs1 Nat.one_pos ?_
   have h0:n % m=0:=Zev.1 e
   refine Eq.trans (b:=rat (cn (mkRat (sg true (n / m)) 1))) ?_ rfl
   rw [upN,if_neg (by simp [h0])]
  ·have h0:¬ n % m=0:=fun h=>e (Zev.2 h)
   refine⟨fun _=> ?_,fun e=>by simp at e⟩
   refine Ztm (a:=enc (n / m)) (b:=⟨#[1]⟩) (by omega) (by show (1:Nat)≤_;omega) ?_
   refine ZjD (n / m+1) 1 (by rw [Zd,Ze5]) Zbx.symm (by rw [upN,if_pos ⟨rfl,h0⟩] at hup;omega) hs1 Nat.one_pos ?_
   refine Eq.trans (b:=rat (cn (mkRat (sg true (n / m+1)) 1))) ?_ rfl
   rw [upN,if_pos ⟨rfl,h0⟩]
theorem ZcV (q:Rat):mkRat (sg (decide (q.num< 0)) (upN (decide (q.num< 0)) q.num.natAbs q.den)) 1=((q.floor:Int):Rat):=by
 rw [Zsw _ _ _ q.den_pos,Zbz,ZgW,Rat.floor_def]
theorem ZfM (q:Rat):qs ((q.floor:Int):Rat)≤qs q+2:=by
 rw [← ZcV,ZgW]
 unfold qs
 rw [Rat.num_intCast,Rat.den_intCast,Zbg,Zex]
 have:=Zfy (decide (q.num< 0)) q.num.natAbs q.den
 omega
theorem Zkb (q:Rat) (hq:(cn q).z≤8796093022208):Spec Tryz.prog Tab 223 [rat (cn q)] (rat (cn ((q.floor:Int):Rat))):=by
 have h:=ZG hq
 have:=Zka (decide (q.num< 0)) q.num.natAbs q.den q.den_pos h.1 h.2
 rw [ZcV] at this
 exact this
theorem ZrM {q:Rat} (hq:(cn q).z≤8796093022208) (k:∀ p,p=((q.floor:Int):Rat)→(cn p).z≤(cn q).z+2→K (rat (cn p))):Ask 223 [rat (cn q)] K:=
 use (Zkb q hq) rfl (k _ rfl (by rw [cn_z,cn_z];exact ZfM q))
def dnN (den:Int):Int:=if 1 >den then 1 else den
theorem Zn5 (den:Int) (h:den≤9223372036854775807):0< dnN den∧dnN den≤9223372036854775807:=by unfold dnN;split<;>omega
def downQ (q:Rat) (den:Int):Rat:=mkRat ((q*((dnN den:Int):Rat)).floor) (dnN den).toNat
theorem Zt0 (n:Nat):RV.q ⟨false,enc n,⟨#[1]⟩⟩=((n:Int):Rat)∧RV.z ⟨false,enc n,⟨#[1]⟩⟩=max (enc n).size 1:=by
 have:(⟨false,enc n,⟨#[1]⟩⟩:RV)=cn ((n:Int):Rat):=by
  unfold cn
  rw [Rat.num_intCast,Rat.den_intCast,Zbx]
  simp
 refine⟨by rw [this,cn_q],rfl⟩
theorem Zsb {n:Nat} (h:n≤9223372036854775807):(enc n).size≤8:=Zi.2 (by omega)
theorem Zn3 (x:RV) (den:Int) (hx:x.z≤1099511627776) (hd:den≤9223372036854775807):Spec Tryz.prog Tab 338 [rat x,int den] (rat (cn (downQ x.q den))):=by
 obtain⟨d1,d2⟩:=Zn5 den hd
 have hs:(enc (dnN den).toNat).size≤8:=Zsb (by omega)
 obtain⟨n1,n2⟩:=Zt0 (dnN den).toNat
 refine Za Tryz.func338 rfl rfl Tryz.ntmps338 rfl (by kernel_rfl) rfl rfl ?_
 refine ZrV (n:=dnN den) d2 ?_
 refine ZcQ (y:=⟨false,enc (dnN den).toNat,⟨#[1]⟩⟩) (by omega) (by rw [n2];omega) fun q e1 z1=> ?_
 rw [n1,Int.toNat_of_nonneg (by omega)] at e1
 rw [n2] at z1
 refine ZrM (by omega) fun p e2 z2=> ?_
 have hnum:p.num=(x.q*((dnN den:Int):Rat)).floor:=by rw [e2,e1];exact Rat.num_intCast _
 refine ZjD (s:=decide (p.num< 0)) (a:=enc p.num.natAbs) p.num.natAbs (dnN den).toNat rfl rfl (by have:=(ZG (x:=cn p) (Nat.le_refl _)).1;exact Nat.le_trans this (by omega)) (by omega) (by omega) ?_
 refine Eq.trans (b:=rat (cn (mkRat (sg (decide (p.num< 0)) p.num.natAbs) (dnN den).toNat))) ?_ rfl
 rw [Zbz,hnum];rfl
theorem Zc6 (q:Rat) (den:Int) (hd:den≤9223372036854775807):qs (downQ q den)≤qs q+40:=by
 obtain⟨d1,d2⟩:=Zn5 den hd
 unfold downQ
 have h1:mkRat (q*((dnN den:Int):Rat)).floor (dnN den).toNat=(((q*((dnN den:Int):Rat)).floor:Int):Rat) / ((dnN den:Int):Rat):=by
  rw [Rat.mkRat_eq_div]
  congr 1
  rw [← Rat.intCast_natCast,Int.toNat_of_nonneg (by omega)]
 rw [h1]
 have:=Zb8 (((q*((dnN den:Int):Rat)).floor:Int):Rat) ((dnN den:Int):Rat)
 have:=ZfM (q*((dnN den:Int):Rat))
 have:=ZS q ((dnN den:Int):Rat)
 have:qs ((dnN den:Int):Rat)≤8:=ZaI (by omega) d2
 omega
theorem ZqX {den:Int} (hx:x.z≤1099511627776) (hd:den≤9223372036854775807) (k:∀ q,q=downQ x.q den→(cn q).z≤x.z+41→K (rat (cn q))):Ask 338 [rat x,int den] K:=
 use (Zn3 x den hx hd) rfl (k _ rfl (by have:=Zc6 x.q den hd;have:=x.z1;rw [cn_z];omega))
def upQ (q:Rat) (den:Int):Rat:=-downQ (-q) den
theorem Zrc (x:RV) (den:Int) (hx:x.z≤549755813888) (hd:den≤9223372036854775807):Spec Tryz.prog Tab 339 [rat x,int den] (rat (cn (upQ x.q den))):=by
 refine Za Tryz.func339 rfl rfl Tryz.ntmps339 rfl (by kernel_rfl) rfl rfl ?_
 refine ZrU (by omega) fun p e1 z1=> ?_
 refine ZqX (by omega) hd fun q e2 z2=> ?_
 rw [cn_q] at e2
 refine ZrU (by omega) fun r e3 z3=> ?_
 rw [cn_q] at e3
 refine Eq.trans (b:=rat (cn r)) ?_ rfl
 rw [e3,e2,e1];rfl
theorem k_up {den:Int} (hx:x.z≤549755813888) (hd:den≤9223372036854775807) (k:∀ q,q=upQ x.q den→(cn q).z≤x.z+60→K (rat (cn q))):Ask 339 [rat x,int den] K:=
 use (Zrc x den hx hd) rfl (k _ rfl (by have:=Zc6 (-x.q) den hd;have:=ZbJ x.q;have h3:=ZbJ (downQ (-x.q) den);have:=x.z1;rw [cn_z];show qs (-downQ (-x.q) den)≤_;omega))
end
end Go.Proofs.YtpfemjpgbpnpkaaGreatDoor.eng
namespace Go.Proofs.YtpfemjpgbpnpkaaGreatDoor.eng
open Go.RowKit num mem seg q held ratA ratB ratC ratD ratE vars ratF natC natD natI
section
variable {K : AV → Prop} {a b : ByteArray} {x y r t : RV} {p q : Rat}
theorem Zm1 (a b:ByteArray):Spec Tryz.prog Tab 192 [str a,str b] (int (cmpN (nv a) (nv b))):=
 Zp (Zt Tryz.func192 rfl rfl) rfl rfl fun w _=>(Zdm a b w).mono fun _ _ h=>⟨h.1,h.2 ▸ Below.refl _ _⟩
theorem ZqV (n m:Nat) (ha:nv a=n) (hb:nv b=m) (k:∀ c,c=cmpN n m→K (int c)):Ask 192 [str a,str b] K:=by
 subst ha hb;exact use (Zm1 a b) rfl (k _ rfl)
theorem Ziz {a b:Nat}:cmpN a b≤0↔a≤b:=by
 unfold cmpN
 split
 ·omega
 ·split<;>omega
def smallP (x:RV):Prop:=x.good∧nv x.a≤1000000∧nv x.d≤1000
instance (x:RV):Decidable (smallP x):=by unfold smallP;infer_instance
theorem Zr4 (hx:x.z≤4398046511104) (k:K (bool (decide (smallP x)))):Ask 207 [rat x] K:=by
 refine use (r:=bool (decide (smallP x))) ?_ rfl k
 have bad:¬ smallP x→bool (decide (smallP x))=bool false:=fun h=>by rw [decide_eq_false h]
 have len:∀ (s:ByteArray) (m j:Nat),enc (nv s)=s→nv s≤m→m< 256 ^ j→s.size≤j:=by
  intro s m j h1 h2 h3
  rw [← h1]
  exact Zi.2 (by omega)
 refine Za Tryz.func207 rfl rfl Tryz.ntmps207 rfl (by kernel_rfl) rfl rfl ?_
 refine fork (fun e1=> ?_) (fun e1=> ?_)
 ·refine fork (fun e2=> ?_) (fun e2=> ?_)
  ·refine ZnB (by omega) fun g hg=> ?_
   cases g with
   |true=>
    have hgood:x.good:=of_decide_eq_true hg.symm
    refine ZrV (n:=1000000) (by omega) ?_
    refine ZqV (nv x.a) 1000000 rfl (Zd _) fun c1 h1=> ?_
    refine fork (fun e3=> ?_) (fun e3=> ?_)
    ·have g1:nv x.a≤1000000:=Ziz.1 (by rw [← h1];exact of_decide_eq_true e3)
     refine ZrV (n:=1000) (by omega) ?_
     refine ZqV (nv x.d) 1000 rfl (Zd _) fun c2 h2=> ?_
     refine⟨by kernel_rfl,?_⟩
     refine Eq.trans (b:=bool (decide (c2≤0))) ?_ rfl
     congr 1
     rw [decide_eq_decide,h2,Ziz]
     exact⟨fun h=>h.2.2,fun h=>⟨hgood,g1,h⟩⟩
    ·refine⟨by kernel_rfl,?_⟩
     refine Eq.trans (bad fun h=>of_decide_eq_false e3 ?_) rfl
     rw [h1];exact Ziz.2 h.2.1
   |false=>
    refine⟨by kernel_rfl,?_⟩
    exact Eq.trans (bad fun h=>of_decide_eq_false hg.symm h.1) rfl
  ·refine⟨by kernel_rfl,?_⟩
   refine Eq.trans (bad fun h=>of_decide_eq_false e2 ?_) rfl
   have:=len x.d 1000 2 h.1.2.1 h.2.2 (by decide)
   show ((x.d.size:Nat):Int)≤2
   omega
 ·refine⟨by kernel_rfl,?_⟩
  refine Eq.trans (bad fun h=>of_decide_eq_false e1 ?_) rfl
  have:=len x.a 1000000 3 h.1.1 h.2.1 (by decide)
  show ((x.a.size:Nat):Int)≤3
  omega
end
end Go.Proofs.YtpfemjpgbpnpkaaGreatDoor.eng
namespace Go.Proofs.YtpfemjpgbpnpkaaGreatDoor.eng
open Go.RowKit num mem seg q held ratA ratB ratC ratD ratE vars ratF
structure LinkV where
 len:RV
 low:RV
 high:RV
 speed:RV
 brake:RV
 shape:List (RV×RV)
structure ArmV where
 name:ByteArray
 bx:RV
 by':RV
 bh:Bool
 bt:RV
 links:List LinkV
def lk (x:LinkV):List D:=rd x.len++rd x.low++rd x.high++rd x.speed++rd x.brake++ [D.list (List.map rdv x.shape)]
def arm (a:ArmV):AV:= .val (.agg [.d (.v (.string a.name)),.d (.v (.bool a.bx.s)),.d (.v (.string a.bx.a)),.d (.v (.string a.bx.d)),.d (.v (.bool a.by'.s)),.d (.v (.string a.by'.a)),.d (.v (.string a.by'.d)),.d (.v (.bool a.bh)),.d (.v (.bool a.bt.s)),.d (.v (.string a.bt.a)),.d (.v (.string a.bt.d)),.d (.list (List.map lk a.links))])
def LinkV.zs (l:LinkV) (B:Nat):Prop:=l.len.z≤B∧l.low.z≤B∧l.high.z≤B∧l.speed.z≤B∧l.brake.z≤B∧l.shape.length≤B∧∀ p,p∈l.shape→p.1.z≤B∧p.2.z≤B
def ArmV.zs (a:ArmV) (B:Nat):Prop:=a.name.size≤B∧a.bx.z≤B∧a.by'.z≤B∧a.bt.z≤B∧a.links.length≤B∧∀ l,l∈a.links→l.zs B
def nameOk (s:ByteArray):Bool:=decide (1≤s.size)&&(decide (s.size≤12)&&s.data.toList.all fun c=>decide (97≤c.toNat)&&decide (c.toNat≤122))
def linkBad (l:LinkV):Prop:=¬ smallP l.len∨¬ smallP l.low∨¬ smallP l.high∨¬ smallP l.speed∨¬ smallP l.brake∨l.len.q≤0∨l.high.q≤l.low.q∨l.speed.q≤0∨l.brake.q≤0
def shapeBad (l:LinkV):Prop:=∃ p,p∈l.shape∧¬ (smallP p.1∧smallP p.2)
open Classical in
noncomputable def linkE (l:LinkV):Int:=if linkBad l then 1 else if convE 8 l.shape=0 then (if shapeBad l then 1 else 0) else convE 8 l.shape
noncomputable def linksE:List LinkV→Int
 | []=>0
 |l :: r=>if linkE l=0 then linksE r else linkE l
def baseBad (a:ArmV):Prop:=a.links.length=0∨¬ smallP a.bx∨¬ smallP a.by'∨¬ smallP a.bt∨(a.bh=true∧a.bt.q≠0)
open Classical in
noncomputable def armE (a:ArmV):Int:=if nameOk a.name=true then (if 3< a.links.length then 2 else if baseBad a then 1 else linksE a.links) else 3
noncomputable def hasE (a:ArmV) (n:Int):Int:=if armE a=0 then (if n=(a.links.length:Int) then 0 else 1) else armE a
theorem ZkP {ls:List LinkV} (h:linksE ls=0):∀ l,l∈ls→linkE l=0:=by
 induction ls with
 |nil=>intro l hl;simp at hl
 |cons a r ih=>
  intro l hl
  unfold linksE at h
  by_cases e:linkE a=0
  ·rw [if_pos e] at h
   rcases List.mem_cons.1 hl with rfl|hl
   ·exact e
   ·exact ih h l hl
  ·rw [if_neg e] at h;exact absurd h e
theorem Zn {ls:List LinkV} {i:Nat} {l:LinkV} (h:ls[i]? =some l) (hb:∀ (j:Nat) (m:LinkV),j< i→ls[j]? =some m→linkE m=0) (hl:linkE l≠0):linksE ls=linkE l:=by
 induction ls generalizing i with
 |nil=>simp at h
 |cons a r ih=>
  cases i with
  |zero=>
   obtain rfl:=Option.some.inj (show some a=some l from h)
   unfold linksE;rw [if_neg hl]
  |succ i=>
   have h0:=hb 0 a (by omega) rfl
   unfold linksE;rw [if_pos h0]
   exact ih (by simpa using h) fun j m hj hm=>hb (j+1) m (by omega) (by simpa using hm)
theorem ZcL {ls:List LinkV} (h:∀ (j:Nat) (m:LinkV),ls[j]? =some m→linkE m=0):linksE ls=0:=by
 induction ls with
 |nil=>rfl
 |cons a r ih=>
  unfold linksE
  rw [if_pos (h 0 a rfl)]
  exact ih fun j m hm=>h (j+1) m (by simpa using hm)
theorem Z4 {a:ArmV} {n:Int}:hasE a n=0↔armE a=0∧n=(a.links.length:Int):=by
 unfold hasE
 by_cases h:armE a=0
 ·by_cases g:n=(a.links.length:Int)<;>simp [h,g]
 ·simp [h]
theorem ZaA {a:ArmV} (h:armE a=0):a.links.length≤3∧a.links≠ []∧smallP a.bx∧smallP a.by'∧smallP a.bt∧(a.bh=true→a.bt.q=0)∧∀ l,l∈a.links→linkE l=0:=by
 unfold armE at h
 by_cases c1:nameOk a.name=true
 ·rw [if_pos c1] at h
  by_cases c2:3< a.links.length
  ·rw [if_pos c2] at h;exact absurd h (by decide)
  ·rw [if_neg c2] at h
   by_cases c3:baseBad a
   ·rw [if_pos c3] at h;exact absurd h (by decide)
   ·rw [if_neg c3] at h
    refine⟨by omega,fun e=>c3 (.inl (by rw [e];rfl)),?_,?_,?_,?_,ZkP h⟩
    ·exact Classical.byContradiction fun e=>c3 (.inr (.inl e))
    ·exact Classical.byContradiction fun e=>c3 (.inr (.inr (.inl e)))
    ·exact Classical.byContradiction fun e=>c3 (.inr (.inr (.inr (.inl e))))
    ·exact fun hb=>Classical.byContradiction fun e=>c3 (.inr (.inr (.inr (.inr ⟨hb,e⟩))))
 ·rw [if_neg c1] at h;exact absurd h (by decide)
theorem Zjy {l:LinkV} (h:linkE l=0):¬ linkBad l∧convE 8 l.shape=0∧¬ shapeBad l:=by
 unfold linkE at h
 by_cases c1:linkBad l
 ·rw [if_pos c1] at h;exact absurd h (by decide)
 ·rw [if_neg c1] at h
  by_cases c2:convE 8 l.shape=0
  ·rw [if_pos c2] at h
   by_cases c3:shapeBad l
   ·rw [if_pos c3] at h;exact absurd h (by decide)
   ·exact⟨c1,c2,c3⟩
  ·rw [if_neg c2] at h;exact absurd h c2
end Go.Proofs.YtpfemjpgbpnpkaaGreatDoor.eng
