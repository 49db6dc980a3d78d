/- Contracts: frames of arms: gantref3, package fore. Printed by wip/gp_fore.py. -/
import Derived.Test.YtpfemjpgbpnpkaaGreatDoorBFore0
import Derived.Test.YtpfemjpgbpnpkaaGreatDoorBGrpZ
set_option maxRecDepth 100000
namespace Go.Proofs.YtpfemjpgbpnpkaaGreatDoor.eng
open Go.RowKit num mem seg q held ratA ratB ratC ratD ratE vars ratF trq
section
variable {K : AV → Prop}
theorem Zq {α:Type} {l:List α} {i:Nat} (h:i< l.length) {G:Prop} (k:∀ x,l[i]? =some x→G):G:=k _ (List.getElem?_eq_getElem h)
theorem Zmv (t:Rat):(((1:Int):Rat) - t*t) / (((1:Int):Rat)+t*t)=cosq false t∧((2:Int):Rat)*t / (((1:Int):Rat)+t*t)=sinq t:=by
 refine⟨rfl,?_⟩
 unfold sinq
 rw [show ((2:Int):Rat)*t=t+t from by rw [show ((2:Int):Rat)=2 from rfl];grind]
theorem ZhL (t:Rat) (ht:qs t≤134217728):Spec Tryz.prog Tab 228 [q3 t] (.tup [.agg [.d (.v (.bool (decide ((cosq false t).num< 0)))),.d (.list (W (w32 (cosq false t).num.natAbs))),.d (.list (W (w32 (cosq false t).den)))],.agg [.d (.v (.bool (decide ((sinq t).num< 0)))),.d (.list (W (w32 (sinq t).num.natAbs))),.d (.list (W (w32 (sinq t).den)))]]):=by
 refine Za Tryz.func228 rfl rfl Tryz.ntmps228 rfl (by kernel_rfl) rfl rfl ?_
 refine k_N3 (1) (by omega) (by omega) fun q5 h5 z5=> ?_
 refine ZbB (p:=t) (q:=t) (by omega) (by omega) fun q8 h8 z8=> ?_
 refine Zhi (p:=q5) (q:=q8) (by omega) (by omega) fun q9 h9 z9=> ?_
 refine⟨by kernel_rfl,?_⟩
 refine k_N3 (1) (by omega) (by omega) fun q10 h10 z10=> ?_
 refine ZbB (p:=t) (q:=t) (by omega) (by omega) fun q13 h13 z13=> ?_
 refine Zdv (p:=q10) (q:=q13) (by omega) (by omega) fun q14 h14 z14=> ?_
 refine Zhg (p:=q14) (q:=q9) (by omega) (by omega) (by subst_vars;exact Ze3 _) fun q16 h16 z16=> ?_
 refine k_N3 (2) (by omega) (by omega) fun q17 h17 z17=> ?_
 refine ZbB (p:=q17) (q:=t) (by omega) (by omega) fun q19 h19 z19=> ?_
 refine Zhg (p:=q19) (q:=q9) (by omega) (by omega) (by subst_vars;exact Ze3 _) fun q21 h21 z21=> ?_
 refine⟨by kernel_rfl,?_⟩
 refine Eq.trans (b:= .tup [.agg [.d (.v (.bool (decide (q16.num< 0)))),.d (.list (W (w32 q16.num.natAbs))),.d (.list (W (w32 q16.den)))],.agg [.d (.v (.bool (decide (q21.num< 0)))),.d (.list (W (w32 q21.num.natAbs))),.d (.list (W (w32 q21.den)))]]) ?_ rfl
 rw [show q16=cosq false t from by subst_vars;exact(Zmv t).1,show q21=sinq t from by subst_vars;exact(Zmv t).2]
theorem ZcP {t:Rat} (ht:qs t≤134217728) (k:∀ p q,p=cosq false t→q=sinq t→qs p≤4*qs t+34→qs q≤4*qs t+34→K (two (q3 p) (q3 q))):Ask 228 [q3 t] K:=use (ZhL t ht) rfl (k _ _ rfl rfl (ZfN t).1 (ZfN t).2)
theorem ZiN (x y:RV) (h:Bool) (z:RV) (hx:x.z≤67108864) (hy:y.z≤67108864) (hz:z.z≤67108864):Spec Tryz.prog Tab 227 [frame x y h z] (q3f x.q y.q (cosq h z.q) (sinq (tq h z.q))):=by
 refine Za Tryz.func227 rfl rfl Tryz.ntmps227 rfl (by kernel_rfl) rfl rfl ?_
 refine Zx (x:=z) (by omega) fun q9 h9 z9=> ?_
 refine ZcP (t:=q9) (by omega) (fun p10 q10 hk_10_2 hk_10_3 hk_10_4 hk_10_5=> ?_)
 refine⟨fun e1=> ?_,fun e1=> ?_⟩
 ·have f15:h=true:=e1
  refine k_N3 (-1) (by omega) (by omega) fun q16 h16 z16=> ?_
  refine k_N3 (0) (by omega) (by omega) fun q17 h17 z17=> ?_
  refine Zx (x:=x) (by omega) fun q21 h21 z21=> ?_
  refine Zx (x:=y) (by omega) fun q25 h25 z25=> ?_
  refine⟨by kernel_rfl,?_⟩
  refine Eq.trans (b:=q3f q21 q25 q16 q17) ?_ rfl
  subst f15
  rw [show cosq true z.q=((-1:Int):Rat) from rfl,show sinq (tq true z.q)=((0:Int):Rat) from ZfG]
  subst_vars;rfl
 ·have f15:¬ (h=true):=fun hh=>ZaG hh e1
  refine Zx (x:=x) (by omega) fun q21 h21 z21=> ?_
  refine Zx (x:=y) (by omega) fun q25 h25 z25=> ?_
  refine⟨by kernel_rfl,?_⟩
  refine Eq.trans (b:=q3f q21 q25 p10 q10) ?_ rfl
  obtain rfl:h=false:=Bool.eq_false_iff.2 f15
  rw [ZcA]
  subst_vars;rfl
theorem Zp1 {x y:RV} {h:Bool} {z:RV} (hx:x.z≤67108864) (hy:y.z≤67108864) (hz:z.z≤67108864) (k:K (q3f x.q y.q (cosq h z.q) (sinq (tq h z.q)))):Ask 227 [frame x y h z] K:=use (ZiN x y h z hx hy hz) rfl k
section
variable  {p q r u v y : Rat}
end
end
end Go.Proofs.YtpfemjpgbpnpkaaGreatDoor.eng
