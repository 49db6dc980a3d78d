/- Joined by wip/bundle.py: XEngFl XSmall XArm0. -/
import Derived.Test.YtgkofgfiifgioaaGreatDoorQGrpP
set_option maxRecDepth 100000
namespace Go.Proofs.YtgkofgfiifgioaaGreatDoor.eng
open Go.RowKit num mem seg q held ratA ratB ratC ratD ratE vars ratF natC natD natI
def str (s:ByteArray):AV:= .val (.one (.d (.v (.string s))))
section
variable {x y : RV} {K : AV → Prop} {a b : ByteArray} {n m : Nat}
theorem Zk9 (a b:ByteArray) (ha:a.size≤35184372088832) (hb:b.size≤35184372088832) (h0:0< nv b):Spec Tryz.prog Tab 99 [str a,str b] (.tup [.one (.d (.v (.string (enc (nv a / nv b))))),.one (.d (.v (.string (enc (nv a % nv b))))),.one (.d (.v (.int .i64 0)))]):=
 Zp (Zm Tryz.func99 rfl rfl) rfl rfl fun w _=>(Zfl a b w ha hb h0).mono fun _ _ h=>h
theorem ZoV (ha:a.size≤35184372088832) (hb:b.size≤35184372088832) (h0:0< nv b) (k:K (.tup [.one (.d (.v (.string (enc (nv a / nv b))))),.one (.d (.v (.string (enc (nv a % nv b))))),.one (.d (.v (.int .i64 0)))])):Ask 99 [str a,str b] K:=
 use (Zk9 a b ha hb h0) rfl k
theorem Zla (a b:ByteArray) (ha:a.size≤70368744177663) (hb:b.size≤70368744177663):Spec Tryz.prog Tab 39 [str a,str b] (str (enc (nv a+nv b))):=
 Zp (Zm Tryz.func39 rfl rfl) rfl rfl fun w _=>(Add_any a b w ha hb).mono fun _ _ h=>h
theorem Zsl (ha:a.size≤70368744177663) (hb:b.size≤70368744177663) (k:K (str (enc (nv a+nv b)))):Ask 39 [str a,str b] K:=
 use (Zla a b ha hb) rfl k
theorem ZnB (n:Int) (h:n≤9223372036854775807):Spec Tryz.prog Tab 38 [int n] (str (enc n.toNat)):=
 Zp (Zm Tryz.func38 rfl rfl) rfl rfl fun w _=>(ZmL n w h).mono fun _ _ h=>h
theorem Ztq {n:Int} (h:n≤9223372036854775807) (k:K (str (enc n.toNat))):Ask 38 [int n] K:=use (ZnB n h) rfl k
theorem Zk8 (a:ByteArray):Spec Tryz.prog Tab 190 [str a] (two (int (intV (nv a))) (int (intE (nv a)))):=
 Zp (Zm Tryz.func190 rfl rfl) rfl rfl fun w _=>(Zq6 a w).mono fun _ _ h=>⟨h.1,h.2 ▸ Below.refl _ _⟩
theorem Zsk (k:∀ v e,v=intV (nv a)→e=intE (nv a)→K (two (int v) (int e))):Ask 190 [str a] K:=use (Zk8 a) rfl (k _ _ rfl rfl)
theorem Zlf (s:Bool) (n d:Nat) (hn:(enc n).size≤17592186044416) (hd:(enc d).size≤17592186044416) (h0:0< d):Spec Tryz.prog Tab 37 [bool s,str (enc n),str (enc d)] (rat (cn (mkRat (sg s n) d))):=by
 refine Zp (Zm Tryz.func37 rfl rfl) rfl rfl fun w hT=> ?_
 refine(Zbq s n d w hn hd h0 hT).mono fun e w' ⟨u,c,f,he,hi,hb⟩=> ?_
 obtain⟨rfl,rfl,rfl⟩:=Zdv hi
 exact⟨he,hb⟩
theorem Zlx {s:Bool} (n d:Nat) (ha:a=enc n) (hb:b=enc d) (hn:(enc n).size≤17592186044416) (hd:(enc d).size≤17592186044416) (h0:0< d) (k:K (rat (cn (mkRat (sg s n) d)))):Ask 37 [bool s,str a,str b] K:=by
 subst ha hb
 exact use (Zlf s n d hn hd h0) rfl k
theorem ZnZ (x:RV) (hx:x.z≤17592186044416):Spec Tryz.prog Tab 42 [rat x] (rat (cn x.q)):=by
 refine Zp (Zm Tryz.func42 rfl rfl) rfl rfl fun w hT=> ?_
 obtain⟨h1,h2⟩:=ZE hx
 refine(Z1 x.s x.a x.d w h1 h2 hT).mono fun e w' ⟨u,c,f,he,hi,hb⟩=> ?_
 obtain⟨rfl,rfl,rfl⟩:=Zdv hi
 exact⟨he,hb⟩
theorem Zso (hx:x.z≤17592186044416) (k:∀ q,q=x.q→(cn q).z≤x.z+1→K (rat (cn q))):Ask 42 [rat x] K:=use (ZnZ x hx) rfl (k _ rfl (by have:=x.z1;rw [cn_z];omega))
theorem Zk6 (ox oy:Operand) (s t:ByteArray) (w:World):(do eqGuard .neq 9 ox oy (.string s) (.string t);binOp .neq 9 (.string s) (.string t):Sem Value).run Tryz.prog w= .ok (.bool (!decide (s=t))) w:=by
 by_cases H:s=t
 ·obtain rfl:=H;simp [go_sem]
 ·rw [decide_eq_false H];simp [go_sem,Zpk,H]
theorem Zhm {ox oy:Operand} {s t:ByteArray} (k1:s=t→K (bool false)) (k0:¬ s=t→K (bool true)):AskB .neq 9 ox oy (.string s) (.string t) K:=by
 by_cases H:s=t
 ·exact useB (fun w=>by have:=Zk6 ox oy s t w;rw [decide_eq_true H] at this;exact this) (k1 H)
 ·exact useB (fun w=>by have:=Zk6 ox oy s t w;rw [decide_eq_false H] at this;exact this) (k0 H)
def upN (s:Bool) (n m:Nat):Nat:=if s=true∧n % m≠0 then n / m+1 else n / m
theorem Zq9 (s:Bool) (n m:Nat) (hm:0< m):sg s (upN s n m)=sg s n / (m:Int):=by
 unfold upN
 cases s with
 |false=>rw [if_neg (by simp)];exact Int.natCast_ediv n m
 |true=>
  have hm':(0:Int)< (m:Int):=ω
  have e:=Nat.div_add_mod n m
  have e':(m:Int)*((n / m:Nat):Int)+((n % m:Nat):Int)=(n:Int):=by rw [← Int.natCast_mul,← Int.natCast_add,e]
  have hlt:=Nat.mod_lt n hm
  by_cases hr:n % m=0
  ·rw [if_neg (by simp [hr])]
   refine((Int.ediv_emod_unique hm' (q:=-((n / m:Nat):Int)) (r:=0)).2 ⟨?_,ω,hm'⟩).1.symm
   show 0+(m:Int)* -((n / m:Nat):Int)=-(n:Int)
   rw [Int.mul_neg];omega
  ·rw [if_pos ⟨rfl,hr⟩]
   refine((Int.ediv_emod_unique hm' (q:=-((n / m+1:Nat):Int)) (r:=(m:Int) - ((n % m:Nat):Int))).2 ⟨?_,ω,ω⟩).1.symm
   show (m:Int) - ((n % m:Nat):Int)+(m:Int)* -((n / m+1:Nat):Int)=-(n:Int)
   rw [Int.mul_neg,Int.natCast_add,Int.mul_add];simp only [Int.natCast_one,Int.mul_one];omega
theorem Zq8 (s:Bool) (n m:Nat):upN s n m≤n+1:=by
 unfold upN
 have:=Nat.div_le_self n m
 split<;>omega
theorem ZdE:(enc 1).size=1:=by rw [enc_one];rfl
theorem ZhR (s:Bool) (n m:Nat):(enc (upN s n m)).size≤(enc n).size+2:=by
 have h1:=Zaf (Zq8 s n m)
 have h2:(enc (n+1)).size≤((enc n).size+1)+1:=Zct (a:=n) (b:=1) (k:=(enc n).size+1) ω (by rw [ZdE];omega)
 omega
theorem ZdC {n:Nat}:enc n=⟨#[]⟩↔n=0:=by
 constructor
 ·intro h
  have:=Zf n
  rw [h] at this
  rw [← this];exact Zcp
 ·intro h;subst h;exact ZK
theorem Zi5 (s:Bool) (n m:Nat) (hm0:0< m) (hn:(enc n).size≤8796093022208) (hm:(enc m).size≤8796093022208):Spec Tryz.prog Tab 189 [rat ⟨s,enc n,enc m⟩] (rat (cn (mkRat (sg s (upN s n m)) 1))):=by
 have h1:(enc (n / m)).size≤8796093022208:=Nat.le_trans (Zaf (Nat.div_le_self n m)) hn
 have hup:=ZhR s n m
 have hs1:(enc 1).size≤17592186044416:=by rw [ZdE];omega
 cases s
 ·refine Zh Tryz.func189 rfl rfl Tryz.ntmps189 rfl ωr rfl rfl ?_
  refine ZoV (a:=enc n) (b:=enc m) ω ω (by rw [Zf];exact hm0) ?_
  refine⟨fun e=>by simp at e,fun _=> ?_⟩
  refine Zlx (n / m) 1 (by rw [Zf,Zf]) enc_one.symm ω hs1 Nat.one_pos ?_
  exact rfl
 ·refine Zh Tryz.func189 rfl rfl Tryz.ntmps189 rfl ωr rfl rfl ?_
  refine ZoV (a:=enc n) (b:=enc m) ω ω (by rw [Zf];exact hm0) ?_
  rw [Zf,Zf]
  refine Zhm (fun e=> ?_) (fun e=> ?_)
  ·refine⟨fun e=>by simp at e,fun _=> ?_⟩
   refine Zlx (n / m) 1 rfl enc_one.symm ω hs1 Nat.one_pos ?_
   have h0:n % m=0:=ZdC.1 e
   refine Eq.trans (b:=rat (cn (mkRat (sg true (n / m)) 1))) ?_ rfl
   rw [upN,if_neg (by simp [h0])]
  ·have h0:¬ n % m=0:=fun h=>e (ZdC.2 h)
   refine⟨fun _=> ?_,fun e=>by simp at e⟩
   refine Zsl (a:=enc (n / m)) (b:=⟨#[1]⟩) ω (by show (1:Nat)≤_;omega) ?_
   refine Zlx (n / m+1) 1 (by rw [Zf,nv_one]) enc_one.symm (by rw [upN,if_pos ⟨rfl,h0⟩] at hup;omega) hs1 Nat.one_pos ?_
   refine Eq.trans (b:=rat (cn (mkRat (sg true (n / m+1)) 1))) ?_ rfl
   rw [upN,if_pos ⟨rfl,h0⟩]
theorem ZiC (q:Rat):mkRat (sg (decide (q.num< 0)) (upN (decide (q.num< 0)) q.num.natAbs q.den)) 1=((q.floor:Int):Rat):=by
 rw [Zq9 _ _ _ q.den_pos,sg_neg,Zih,Rat.floor_def]
theorem Znr (q:Rat):qs ((q.floor:Int):Rat)≤qs q+2:=by
 rw [← ZiC,Zih]
 unfold qs
 rw [Rat.num_intCast,Rat.den_intCast,ZaQ,ZdE]
 have:=ZhR (decide (q.num< 0)) q.num.natAbs q.den
 omega
theorem Zi6 (q:Rat) (hq:(cn q).z≤8796093022208):Spec Tryz.prog Tab 189 [rat (cn q)] (rat (cn ((q.floor:Int):Rat))):=by
 have h:=ZE hq
 have:=Zi5 (decide (q.num< 0)) q.num.natAbs q.den q.den_pos h.1 h.2
 rw [ZiC] at this
 exact this
theorem Zqg {q:Rat} (hq:(cn q).z≤8796093022208) (k:∀ p,p=((q.floor:Int):Rat)→(cn p).z≤(cn q).z+2→K (rat (cn p))):Ask 189 [rat (cn q)] K:=
 use (Zi6 q hq) rfl (k _ rfl (by rw [cn_z,cn_z];exact Znr q))
def flV (q:Rat):Int:=if q.floor< 0 then -intV q.floor.natAbs else intV q.floor.natAbs
def flE (q:Rat):Int:=intE q.floor.natAbs
theorem Zej (n:Nat):0≤intV n∧intV n≤9223372036854775807:=by unfold intV;split<;>omega
theorem wrap64' (n:Int) (h1:-9223372036854775808≤n) (h2:n≤9223372036854775807):IntKind.i64.wrap n=n:=by
 unfold IntKind.wrap
 simp [IntKind.signed,IntKind.bits]
 split<;>omega
theorem ZjL (x:RV) (hx:x.z≤4398046511104):Spec Tryz.prog Tab 141 [rat x] (two (int (flV x.q)) (int (flE x.q))):=by
 refine Zh Tryz.func141 rfl rfl Tryz.ntmps141 rfl ωr rfl rfl ?_
 refine Zso ω fun q e1 z1=> ?_
 refine Zqg ω fun p e2 z2=> ?_
 have hnum:p.num=x.q.floor:=by rw [e2,e1];exact Rat.num_intCast _
 refine Zsk (a:=enc p.num.natAbs) fun v e hv he=> ?_
 rw [Zf,hnum] at hv he
 have hr:=Zej x.q.floor.natAbs
 refine⟨fun h=> ?_,fun h=> ?_⟩
 ·have h':p.num< 0:=of_decide_eq_true h
  rw [hnum] at h'
  refine Eq.trans (b:=two (int (IntKind.i64.wrap (0 - v))) (int e)) ?_ rfl
  rw [wrap64' _ ω ω,hv,he,flV,if_pos h',Int.zero_sub,flE]
 ·have h':¬ p.num< 0:=of_decide_eq_false h
  rw [hnum] at h'
  refine Eq.trans (b:=two (int v) (int e)) ?_ rfl
  rw [hv,he,flV,if_neg h',flE]
theorem Ze1 (hx:x.z≤4398046511104) (k:∀ v e,v=flV x.q→e=flE x.q→K (two (int v) (int e))):Ask 141 [rat x] K:=use (ZjL x hx) rfl (k _ _ rfl rfl)
end
section
variable {K : AV → Prop} {a b : ByteArray} {x y r t : RV} {p q : Rat}
def smallP (x:RV):Prop:=x.good∧nv x.a≤1000000∧nv x.d≤1000
instance (x:RV):Decidable (smallP x):=by unfold smallP;infer_instance
end
structure LinkV where
 len:RV
 low:RV
 high:RV
 speed:RV
 brake:RV
 shape:List (RV×RV)
structure ArmV where
 name:ByteArray
 bx:RV
 by':RV
 bh:Bool
 bt:RV
 links:List LinkV
def LinkV.zs (l:LinkV) (B:Nat):Prop:=l.len.z≤B∧l.low.z≤B∧l.high.z≤B∧l.speed.z≤B∧l.brake.z≤B∧l.shape.length≤B∧∀ p,p∈l.shape→p.1.z≤B∧p.2.z≤B
def ArmV.zs (a:ArmV) (B:Nat):Prop:=a.name.size≤B∧a.bx.z≤B∧a.by'.z≤B∧a.bt.z≤B∧a.links.length≤B∧∀ l,l∈a.links→l.zs B
