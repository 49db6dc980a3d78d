/- Joined by wip/bundle.py: XEngFl XSmall XArm0. -/
import Derived.Test.YtcogfmileelkeaaDoorGrpEn
import Derived.Test.YtcogfmileelkeaaDoorGrpP
set_option maxRecDepth 100000
namespace Go.Proofs.YtcogfmileelkeaaDoor.eng
open Go.RowKit num mem seg q held ratA ratB ratC ratD ratE vars ratF natC natD natI
def str (s:ByteArray):AV:= .val (.one (.d (.v (.string s))))
section
variable {x y : RV} {K : AV → Prop} {a b : ByteArray} {n m : Nat}
theorem ZhS (a b:ByteArray) (ha:a.size≤35184372088832) (hb:b.size≤35184372088832) (h0:0< nv b):Spec Tryd.prog Tab 68 [str a,str b] (.tup [.one (.d (.v (.string (enc (nv a / nv b))))),.one (.d (.v (.string (enc (nv a % nv b))))),.one (.d (.v (.int .i64 0)))]):=
 ZX (Zz Tryd.func68 rfl rfl) rfl rfl fun w _=>(ZdS a b w ha hb h0).mono fun _ _ h=>h
theorem ZjK (ha:a.size≤35184372088832) (hb:b.size≤35184372088832) (h0:0< nv b) (k:K (.tup [.one (.d (.v (.string (enc (nv a / nv b))))),.one (.d (.v (.string (enc (nv a % nv b))))),.one (.d (.v (.int .i64 0)))])):Ask 68 [str a,str b] K:=
 use (ZhS a b ha hb h0) rfl k
theorem ZhT (a b:ByteArray) (ha:a.size≤70368744177663) (hb:b.size≤70368744177663):Spec Tryd.prog Tab 69 [str a,str b] (str (enc (nv a+nv b))):=
 ZX (Zz Tryd.func69 rfl rfl) rfl rfl fun w _=>(ZkE a b w ha hb).mono fun _ _ h=>h
theorem Zk4 (ha:a.size≤70368744177663) (hb:b.size≤70368744177663) (k:K (str (enc (nv a+nv b)))):Ask 69 [str a,str b] K:=
 use (ZhT a b ha hb) rfl k
theorem ZhR (a:ByteArray):Spec Tryd.prog Tab 55 [str a] (two (int (intV (nv a))) (int (intE (nv a)))):=
 ZX (Zz Tryd.func55 rfl rfl) rfl rfl fun w _=>(ZkD a w).mono fun _ _ h=>⟨h.1,h.2 ▸ Below.refl _ _⟩
theorem Zk3 (k:∀ v e,v=intV (nv a)→e=intE (nv a)→K (two (int v) (int e))):Ask 55 [str a] K:=use (ZhR a) rfl (k _ _ rfl rfl)
theorem ZhW (s:Bool) (n d:Nat) (hn:(enc n).size≤17592186044416) (hd:(enc d).size≤17592186044416) (h0:0< d):Spec Tryd.prog Tab 70 [bool s,str (enc n),str (enc d)] (rat (cn (mkRat (sg s n) d))):=by
 refine ZX (Zz Tryd.func70 rfl rfl) rfl rfl fun w hT=> ?_
 refine(Zjb s n d w hn hd h0 hT).mono fun e w' ⟨u,c,f,he,hi,hb⟩=> ?_
 obtain⟨rfl,rfl,rfl⟩:=Zkg hi
 exact⟨he,hb⟩
theorem Zh5 {s:Bool} (n d:Nat) (ha:a=enc n) (hb:b=enc d) (hn:(enc n).size≤17592186044416) (hd:(enc d).size≤17592186044416) (h0:0< d) (k:K (rat (cn (mkRat (sg s n) d)))):Ask 70 [bool s,str a,str b] K:=by
 subst ha hb
 exact use (ZhW s n d hn hd h0) rfl k
theorem Zjl (x:RV) (hx:x.z≤17592186044416):Spec Tryd.prog Tab 37 [rat x] (rat (cn x.q)):=by
 refine ZX (Zz Tryd.func37 rfl rfl) rfl rfl fun w hT=> ?_
 obtain⟨h1,h2⟩:=Zb9 hx
 refine(ZdI x.s x.a x.d w h1 h2 hT).mono fun e w' ⟨u,c,f,he,hi,hb⟩=> ?_
 obtain⟨rfl,rfl,rfl⟩:=Zkg hi
 exact⟨he,hb⟩
theorem Zlr (hx:x.z≤17592186044416) (k:∀ q,q=x.q→(cn q).z≤x.z+1→K (rat (cn q))):Ask 37 [rat x] K:=use (Zjl x hx) rfl (k _ rfl (by have:=x.z1;rw [cn_z];omega))
theorem ZhQ (ox oy:Operand) (s t:ByteArray) (w:World):(do eqGuard .neq 9 ox oy (.string s) (.string t);binOp .neq 9 (.string s) (.string t):Sem Value).run Tryd.prog w= .ok (.bool (!decide (s=t))) w:=by
 by_cases H:s=t
 ·obtain rfl:=H;simp [go_sem]
 ·rw [decide_eq_false H];simp [go_sem,Zlj,H]
theorem Zfj {ox oy:Operand} {s t:ByteArray} (k1:s=t→K (bool false)) (k0:¬ s=t→K (bool true)):AskB .neq 9 ox oy (.string s) (.string t) K:=by
 by_cases H:s=t
 ·exact useB (fun w=>by have:=ZhQ ox oy s t w;rw [decide_eq_true H] at this;exact this) (k1 H)
 ·exact useB (fun w=>by have:=ZhQ ox oy s t w;rw [decide_eq_false H] at this;exact this) (k0 H)
def upN (s:Bool) (n m:Nat):Nat:=if s=true∧n % m≠0 then n / m+1 else n / m
theorem ZkI (s:Bool) (n m:Nat) (hm:0< m):sg s (upN s n m)=sg s n / (m:Int):=by
 unfold upN
 cases s with
 |false=>rw [if_neg (by simp)];exact Int.natCast_ediv n m
 |true=>
  have hm':(0:Int)< (m:Int):=by omega
  have e:=Nat.div_add_mod n m
  have e':(m:Int)*((n / m:Nat):Int)+((n % m:Nat):Int)=(n:Int):=by rw [← Int.natCast_mul,← Int.natCast_add,e]
  have hlt:=Nat.mod_lt n hm
  by_cases hr:n % m=0
  ·rw [if_neg (by simp [hr])]
   refine((Int.ediv_emod_unique hm' (q:=-((n / m:Nat):Int)) (r:=0)).2 ⟨?_,by omega,hm'⟩).1.symm
   show 0+(m:Int)* -((n / m:Nat):Int)=-(n:Int)
   rw [Int.mul_neg];omega
  ·rw [if_pos ⟨rfl,hr⟩]
   refine((Int.ediv_emod_unique hm' (q:=-((n / m+1:Nat):Int)) (r:=(m:Int) - ((n % m:Nat):Int))).2 ⟨?_,by omega,by omega⟩).1.symm
   show (m:Int) - ((n % m:Nat):Int)+(m:Int)* -((n / m+1:Nat):Int)=-(n:Int)
   rw [Int.mul_neg,Int.natCast_add,Int.mul_add];simp only [Int.natCast_one,Int.mul_one];omega
theorem ZkH (s:Bool) (n m:Nat):upN s n m≤n+1:=by
 unfold upN
 have:=Nat.div_le_self n m
 split<;>omega
theorem Zcz:(enc 1).size=1:=by rw [Zbc];rfl
theorem ZfC (s:Bool) (n m:Nat):(enc (upN s n m)).size≤(enc n).size+2:=by
 have h1:=Zak (ZkH s n m)
 have h2:(enc (n+1)).size≤((enc n).size+1)+1:=Zg4 (a:=n) (b:=1) (k:=(enc n).size+1) (by omega) (by rw [Zcz];omega)
 omega
theorem Zcx {n:Nat}:enc n=⟨#[]⟩↔n=0:=by
 constructor
 ·intro h
  have:=Zi n
  rw [h] at this
  rw [← this];exact ZbF
 ·intro h;subst h;exact Z6
theorem Zgt (s:Bool) (n m:Nat) (hm0:0< m) (hn:(enc n).size≤8796093022208) (hm:(enc m).size≤8796093022208):Spec Tryd.prog Tab 54 [rat ⟨s,enc n,enc m⟩] (rat (cn (mkRat (sg s (upN s n m)) 1))):=by
 have h1:(enc (n / m)).size≤8796093022208:=Nat.le_trans (Zak (Nat.div_le_self n m)) hn
 have hup:=ZfC s n m
 have hs1:(enc 1).size≤17592186044416:=by rw [Zcz];omega
 cases s
 ·refine Zn Tryd.func54 rfl rfl Tryd.ntmps54 rfl (by kernel_rfl) rfl rfl ?_
  refine ZjK (a:=enc n) (b:=enc m) (by omega) (by omega) (by rw [Zi];exact hm0) ?_
  refine⟨fun e=>by simp at e,fun _=> ?_⟩
  refine Zh5 (n / m) 1 (by rw [Zi,Zi]) Zbc.symm (by omega) hs1 Nat.one_pos ?_
  exact rfl
 ·refine Zn Tryd.func54 rfl rfl Tryd.ntmps54 rfl (by kernel_rfl) rfl rfl ?_
  refine ZjK (a:=enc n) (b:=enc m) (by omega) (by omega) (by rw [Zi];exact hm0) ?_
  rw [Zi,Zi]
  refine Zfj (fun e=> ?_) (fun e=> ?_)
  ·refine⟨fun e=>by simp at e,fun _=> ?_⟩
   refine Zh5 (n / m) 1 rfl Zbc.symm (by omega) hs1 Nat.one_pos ?_
   have h0:n % m=0:=Zcx.1 e
   refine Eq.trans (b:=rat (cn (mkRat (sg true (n / m)) 1))) ?_ rfl
   rw [upN,if_neg (by simp [h0])]
  ·have h0:¬ n % m=0:=fun h=>e (Zcx.2 h)
   refine⟨fun _=> ?_,fun e=>by simp at e⟩
   refine Zk4 (a:=enc (n / m)) (b:=⟨#[1]⟩) (by omega) (by show (1:Nat)≤_;omega) ?_
   refine Zh5 (n / m+1) 1 (by rw [Zi,Zei]) Zbc.symm (by rw [upN,if_pos ⟨rfl,h0⟩] at hup;omega) hs1 Nat.one_pos ?_
   refine Eq.trans (b:=rat (cn (mkRat (sg true (n / m+1)) 1))) ?_ rfl
   rw [upN,if_pos ⟨rfl,h0⟩]
theorem Zf5 (q:Rat):mkRat (sg (decide (q.num< 0)) (upN (decide (q.num< 0)) q.num.natAbs q.den)) 1=((q.floor:Int):Rat):=by
 rw [ZkI _ _ _ q.den_pos,ZfK,ZjI,Rat.floor_def]
theorem Zi1 (q:Rat):qs ((q.floor:Int):Rat)≤qs q+2:=by
 rw [← Zf5,ZjI]
 unfold qs
 rw [Rat.num_intCast,Rat.den_intCast,Zcg,Zcz]
 have:=ZfC (decide (q.num< 0)) q.num.natAbs q.den
 omega
theorem Zgu (q:Rat) (hq:(cn q).z≤8796093022208):Spec Tryd.prog Tab 54 [rat (cn q)] (rat (cn ((q.floor:Int):Rat))):=by
 have h:=Zb9 hq
 have:=Zgt (decide (q.num< 0)) q.num.natAbs q.den q.den_pos h.1 h.2
 rw [Zf5] at this
 exact this
theorem Zke {q:Rat} (hq:(cn q).z≤8796093022208) (k:∀ p,p=((q.floor:Int):Rat)→(cn p).z≤(cn q).z+2→K (rat (cn p))):Ask 54 [rat (cn q)] K:=
 use (Zgu q hq) rfl (k _ rfl (by rw [cn_z,cn_z];exact Zi1 q))
def flV (q:Rat):Int:=if q.floor< 0 then -intV q.floor.natAbs else intV q.floor.natAbs
def flE (q:Rat):Int:=intE q.floor.natAbs
theorem Zc8 (n:Nat):0≤intV n∧intV n≤9223372036854775807:=by unfold intV;split<;>omega
theorem wrap64' (n:Int) (h1:-9223372036854775808≤n) (h2:n≤9223372036854775807):IntKind.i64.wrap n=n:=by
 unfold IntKind.wrap
 simp [IntKind.signed,IntKind.bits]
 split<;>omega
theorem Zg1 (x:RV) (hx:x.z≤4398046511104):Spec Tryd.prog Tab 40 [rat x] (two (int (flV x.q)) (int (flE x.q))):=by
 refine Zn Tryd.func40 rfl rfl Tryd.ntmps40 rfl (by kernel_rfl) rfl rfl ?_
 refine Zlr (by omega) fun q e1 z1=> ?_
 refine Zke (by omega) fun p e2 z2=> ?_
 have hnum:p.num=x.q.floor:=by rw [e2,e1];exact Rat.num_intCast _
 refine Zk3 (a:=enc p.num.natAbs) fun v e hv he=> ?_
 rw [Zi,hnum] at hv he
 have hr:=Zc8 x.q.floor.natAbs
 refine⟨fun h=> ?_,fun h=> ?_⟩
 ·have h':p.num< 0:=of_decide_eq_true h
  rw [hnum] at h'
  refine Eq.trans (b:=two (int (IntKind.i64.wrap (0 - v))) (int e)) ?_ rfl
  rw [wrap64' _ (by omega) (by omega),hv,he,flV,if_pos h',Int.zero_sub,flE]
 ·have h':¬ p.num< 0:=of_decide_eq_false h
  rw [hnum] at h'
  refine Eq.trans (b:=two (int v) (int e)) ?_ rfl
  rw [hv,he,flV,if_neg h',flE]
theorem ZdF (hx:x.z≤4398046511104) (k:∀ v e,v=flV x.q→e=flE x.q→K (two (int v) (int e))):Ask 40 [rat x] K:=use (Zg1 x hx) rfl (k _ _ rfl rfl)
end
end Go.Proofs.YtcogfmileelkeaaDoor.eng
namespace Go.Proofs.YtcogfmileelkeaaDoor.eng
open Go.RowKit num mem seg q held ratA ratB ratC ratD ratE vars ratF natC natD natI
section
variable {K : AV → Prop} {a b : ByteArray} {x y r t : RV} {p q : Rat}
def smallP (x:RV):Prop:=x.good∧nv x.a≤1000000∧nv x.d≤1000
instance (x:RV):Decidable (smallP x):=by unfold smallP;infer_instance
end
end Go.Proofs.YtcogfmileelkeaaDoor.eng
namespace Go.Proofs.YtcogfmileelkeaaDoor.eng
open Go.RowKit num mem seg q held ratA ratB ratC ratD ratE vars ratF
structure LinkV where
 len:RV
 low:RV
 high:RV
 speed:RV
 brake:RV
 shape:List (RV×RV)
structure ArmV where
 name:ByteArray
 bx:RV
 by':RV
 bh:Bool
 bt:RV
 links:List LinkV
def lk (x:LinkV):List D:=rd x.len++rd x.low++rd x.high++rd x.speed++rd x.brake++ [D.list (List.map rdv x.shape)]
def LinkV.zs (l:LinkV) (B:Nat):Prop:=l.len.z≤B∧l.low.z≤B∧l.high.z≤B∧l.speed.z≤B∧l.brake.z≤B∧l.shape.length≤B∧∀ p,p∈l.shape→p.1.z≤B∧p.2.z≤B
def ArmV.zs (a:ArmV) (B:Nat):Prop:=a.name.size≤B∧a.bx.z≤B∧a.by'.z≤B∧a.bt.z≤B∧a.links.length≤B∧∀ l,l∈a.links→l.zs B
end Go.Proofs.YtcogfmileelkeaaDoor.eng
