/- Contracts: frames of arms: gantref3, package fore. Printed by wip/gp_fore.py. -/
import Derived.Test.YtnhfpbcbhnfeaaaGreatDoorQFore0
import Derived.Test.YtnhfpbcbhnfeaaaGreatDoorQGrpZ
set_option maxRecDepth 100000
namespace Go.Proofs.YtnhfpbcbhnfeaaaGreatDoor.eng
open Go.RowKit num mem seg q held ratA ratB ratC ratD ratE vars ratF trq
section
variable{K:AV->Prop}
theorem Zm{α:Type}{l:List α}{i:Nat}(h:i<l.length){G:Prop}(k:∀x,l[i]? =some x->G):G:=k _ (gE h)
theorem Zo7(t:Rat):(((1:Int):Rat)-t*t)/(((1:Int):Rat)+t*t)=cosq false t/\((2:Int):Rat)*t/(((1:Int):Rat)+t*t)=sinq t:=by
 refine⟨rfl,?_⟩;unfold sinq;rw[show ((2:Int):Rat)*t=t+t from by rw[show ((2:Int):Rat)=2 from rfl];grind]
theorem Zjh(t:Rat)(ht:qs t<=134217728):Spec Tryz.prog Tab 213 [q3 t] (.tup [.agg (Q1 (cosq false t) []),.agg (Q1 (sinq t) [])]):=by
 refine Zb Tryz.func213 Tryz.ntmps213 ?_;refine k_N3 (1) ω ω fun q5 h5 z5=> Zbj (p:=t) (q:=t) ω ω fun q8 h8 z8=> Ze0 (p:=q5) (q:=q8) ω ω fun q9 h9 z9=>⟨ωr,k_N3 (1) ω ω fun q10 h10 z10=> Zbj (p:=t) (q:=t) ω ω fun q13 h13 z13=> Zci (p:=q10) (q:=q13) ω ω fun q14 h14 z14=> ZeZ (p:=q14) (q:=q9) ω ω (by subst_vars;exact ZfV _) fun q16 h16 z16=> k_N3 (2) ω ω fun q17 h17 z17=> Zbj (p:=q17) (q:=t) ω ω fun q19 h19 z19=> ZeZ (p:=q19) (q:=q9) ω ω (by subst_vars;exact ZfV _) fun q21 h21 z21=>⟨ωr,Eq.trans (b:=.tup [.agg (Q1 q16 []),.agg (Q1 q21 [])]) ?_ rfl⟩⟩;rw[show q16=cosq false t from by subst_vars;exact(Zo7 t).1,show q21=sinq t from by subst_vars;exact(Zo7 t).2]
theorem Zdf{t:Rat}(ht:qs t<=134217728)(k:∀p q,p=cosq false t->q=sinq t->qs p<=4*qs t+34->qs q<=4*qs t+34->K (two (q3 p) (q3 q))):Ask 213 [q3 t] K:=use (Zjh t ht) rfl (k _ _ rfl rfl (ZgT t).1 (ZgT t).2)
theorem ZtL{x y:RV}{h:Bool}{z:RV}(hx:x.z<=67108864)(hy:y.z<=67108864)(hz:z.z<=67108864)(k:K (q3f x.q y.q (cosq h z.q) (sinq (tq h z.q)))):Ask 175 [frame x y h z] K:=use2 k (by
 refine Zb Tryz.func175 Tryz.ntmps175 ?_;refine Zq (x:=z) ω fun q9 h9 z9=> Zdf (t:=q9) ω (fun p10 q10 hk_10_2 hk_10_3 hk_10_4 hk_10_5=>⟨fun e1=>?_,fun e1=>?_⟩)
 .have f15:h=true:=e1;refine k_N3 (-1) ω ω fun q16 h16 z16=> k_N3 (0) ω ω fun q17 h17 z17=> Zq (x:=x) ω fun q21 h21 z21=> Zq (x:=y) ω fun q25 h25 z25=>⟨ωr,Eq.trans (b:=q3f q21 q25 q16 q17) ?_ rfl⟩;subst f15;rw[show cosq true z.q=((-1:Int):Rat) from rfl,show sinq (tq true z.q)=((0:Int):Rat) from ZgH]
  subst_vars;rfl
 .have f15:¬(h=true):=fun hh=>Zbs hh e1;refine Zq (x:=x) ω fun q21 h21 z21=> Zq (x:=y) ω fun q25 h25 z25=>⟨ωr,Eq.trans (b:=q3f q21 q25 p10 q10) ?_ rfl⟩;obtain rfl:h=false:=Bool.eq_false_iff.2 f15;rw[ZcZ]
  subst_vars;rfl
 ) rfl
section
variable{p q r u v y:Rat}
end
end
