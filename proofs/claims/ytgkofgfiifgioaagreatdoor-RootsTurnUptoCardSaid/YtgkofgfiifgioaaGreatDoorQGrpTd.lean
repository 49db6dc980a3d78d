/- Joined by wip/bundle.py: XTopB XTopC XSwt0 XSwtA XTcs XTcl0 XTcc XTcl1 XTopD. -/
import Derived.Test.YtgkofgfiifgioaaGreatDoorQGrpTa
import Derived.Test.YtgkofgfiifgioaaGreatDoorQGrpY
import Derived.Test.YtgkofgfiifgioaaGreatDoorQGrpc
import Derived.Test.YtgkofgfiifgioaaGreatDoorQGrpSt
set_option maxRecDepth 100000
namespace Go.Proofs.YtgkofgfiifgioaaGreatDoor.eng
open Go.RowKit num mem seg q held ratA ratB ratC ratD ratE vars ratF prf natC natD natI sub32
section
variable {K : AV → Prop}
def hM (l:List Int):Int:=1+nextV (nextL l 6) 6
end
open Go.RowKit num mem seg q held ratA ratB ratC ratD ratE vars ratF prf natC natD natI sub32 trq
section
variable {K : AV → Prop}
end
open Go.RowKit num mem seg q held ratA ratB ratC ratD ratE vars ratF trq
section
variable {K : AV → Prop}
theorem Zsb {x y:RV} (hx:x.z≤3145760) (hy:y.z≤3145760) (k:∀ ya yb,ya=(cs3 (slo x y) (shi x y)).1→yb=(cs3 (slo x y) (shi x y)).2→sle ya yb→qs ya≤4*(x.z+y.z+8)+34→qs yb≤4*(x.z+y.z+8)+34→K (pair (cn ya) (cn yb))):Ask 20 [pair x y] K:=by
 refine Zly ω ω fun ya yb ha hb=> ?_
 have hz1:=ZfA x y
 have hz2:=ZfE x y
 rw [cn_z] at hz1 hz2
 obtain⟨z1,z2⟩:=ZtE (l:=slo x y) (h:=shi x y) (B:=x.z+y.z+8) ω ω ω
 have e:=Zmh (ZfB x y)
 have ha:ya=(cs3 (slo x y) (shi x y)).1:=by rw [← e];exact ha
 have hb:yb=(cs3 (slo x y) (shi x y)).2:=by rw [← e];exact hb
 have hle:sle (cs3 (slo x y) (shi x y)).1 (cs3 (slo x y) (shi x y)).2:=Rat.le_trans (Zpe _ _).1 (Zpe _ _).2
 exact k ya yb ha hb (by rw [ha,hb];exact hle) (by rw [ha];exact z1) (by rw [hb];exact z2)
theorem Zsa {x y:RV} (hx:x.z≤3145760) (hy:y.z≤3145760) (k:∀ ya yb,ya=(sn3 (slo x y) (shi x y)).1→yb=(sn3 (slo x y) (shi x y)).2→sle ya yb→qs ya≤4*(x.z+y.z+8)+34→qs yb≤4*(x.z+y.z+8)+34→K (pair (cn ya) (cn yb))):Ask 22 [pair x y] K:=by
 refine Zlu ω ω fun ya yb ha hb=> ?_
 have hz1:=ZfA x y
 have hz2:=ZfE x y
 rw [cn_z] at hz1 hz2
 obtain⟨z1,z2⟩:=Zs9 (l:=slo x y) (h:=shi x y) (B:=x.z+y.z+8) ω ω ω
 have e:=ZpJ (ZfB x y)
 rw [e] at ha hb
 have hle:sle (sn3 (slo x y) (shi x y)).1 (sn3 (slo x y) (shi x y)).2:=Rat.le_trans (Zot _ _).1 (Zot _ _).2
 exact k ya yb ha hb (by rw [ha,hb];exact hle) (by rw [ha];exact z1) (by rw [hb];exact z2)
end
open prf
section
variable {K : AV → Prop}
end
theorem ZpB {l h t:Rat} (h1:l≤t) (h2:t≤h):t*t≤sqHi l h:=by
 obtain⟨g1,g2⟩:=ZaI [h*h] (l*l)
 have g2:=g2 _ List.mem_cons_self
 unfold sqHi
 by_cases h0:0≤t
 ·refine Rat.le_trans ?_ g2
  have:=Rat.mul_nonneg (by grind:0≤h - t) (by grind:0≤h+t)
  grind
 ·refine Rat.le_trans ?_ g1
  have:=Rat.mul_nonneg (by grind:0≤t - l) (by grind:0≤-t - l)
  grind
theorem ZpA {l h t:Rat} (h1:l≤t) (h2:t≤h):sqLo l h≤t*t:=by
 unfold sqLo
 split
 ·exact sq_nonneg' t
 ·rename_i hn
  obtain⟨g1,g2⟩:=ZbF [h*h] (l*l)
  have g2:=g2 _ List.mem_cons_self
  rw [ZT,qi_0] at hn
  by_cases h0:0≤l
  ·refine Rat.le_trans g1 ?_
   have:=Rat.mul_nonneg (by grind:0≤t - l) (by grind:0≤t+l)
   grind
  ·have hh:h< 0:=by
    by_cases g:h< 0
    ·exact g
    ·exact absurd ⟨by grind,by grind⟩ hn
   refine Rat.le_trans g2 ?_
   have:=Rat.mul_nonneg (by grind:0≤h - t) (by grind:0≤-t - h)
   grind
theorem ZsQ (t:Rat):cosq false t=cosF (t*t):=by rw [← ZO,Zc4]
theorem ZqL {l h t:Rat} (h1:l≤t) (h2:t≤h):(cs3 l h).1≤cosq false t∧cosq false t≤(cs3 l h).2:=by
 rw [← Zmh (Rat.le_trans h1 h2),ZsQ]
 exact⟨Z7 (sq_nonneg' t) (ZpB h1 h2),Z7 (Zbz l h) (ZpA h1 h2)⟩
theorem Zcm {s t:Rat} (h:0≤(s - t)*(1 - s*t)):sinq t≤sinq s:=by
 obtain⟨_,e1,_⟩:=Zbs s
 obtain⟨_,e2,_⟩:=Zbs t
 have p1:=ZaT s
 have p2:=ZaT t
 have hp:0< (1+s*s)*(1+t*t):=Rat.mul_pos p1 p2
 have key:(sinq s - sinq t)*((1+s*s)*(1+t*t))=2*((s - t)*(1 - s*t)):=by
  have a1:(sinq s - sinq t)*((1+s*s)*(1+t*t))=sinq s*(1+s*s)*(1+t*t) - sinq t*(1+t*t)*(1+s*s):=by grind
  rw [a1,e1,e2];grind
 have:0≤sinq s - sinq t:=(Zc1 hp key).1 (by grind)
 grind
theorem Zkq {l h a:Rat} (ha:a=-1∨a=1) (h1:l≤a) (h2:a≤h):a∈ext3 l h:=by
 have hq:hasQ l h a=true:=ZT.2 ⟨h1,h2⟩
 unfold ext3 ext
 simp only [List.foldl_cons,List.foldl_nil,qi_1,Znt,qi_0]
 rcases ha with rfl|rfl
 ·rw [if_pos hq];(repeat' split)<;>simp
 ·rw [if_pos hq];simp
theorem Zgb (l h:Rat):l∈ext3 l h∧h∈ext3 l h:=by
 unfold ext3 ext
 simp only [List.foldl_cons,List.foldl_nil]
 constructor<;>(repeat' split)<;>simp
theorem Zbb {l h t:Rat} (ht:t∈ext3 l h):(sn3 l h).1≤sinq t∧sinq t≤(sn3 l h).2:=
 ⟨(ZbF _ _).2 _ (List.mem_map.2 ⟨t,ht,rfl⟩),(ZaI _ _).2 _ (List.mem_map.2 ⟨t,ht,rfl⟩)⟩
theorem mulp' {a b:Rat} (ha:0≤a) (hb:0≤b):0≤a*b:=Rat.mul_nonneg ha hb
theorem ZpI {l h t:Rat} (h1:l≤t) (h2:t≤h):(sn3 l h).1≤sinq t:=by
 obtain⟨ml,mh⟩:=Zgb l h
 by_cases hm:l≤-1∧-1≤h
 ·refine Rat.le_trans (Zbb (Zkq (.inl rfl) hm.1 hm.2)).1 ?_
  rw [ZeB.2.2.2.1];exact(Zer t).2.1
 ·by_cases hh:h< -1
  ·refine Rat.le_trans (Zbb mh).1 (Zcm ?_)
   have a1:0≤(h - t)*(t*h - 1):=mulp' (by grind) (by have:=mulp' (show 0≤-1 - t by grind) (show 0≤-1 - h by grind);grind)
   grind
  ·have hl:-1< l:=by grind
   by_cases hc:t*l≤1
   ·refine Rat.le_trans (Zbb ml).1 (Zcm ?_)
    exact mulp' (by grind) (by grind)
   ·have ht1:1< t:=by
     by_cases g:1< t
     ·exact g
     ·exfalso
      apply hc
      by_cases g0:0≤l
      ·have:=mulp' (show 0≤1 - t by grind) g0
       have:=mulp' (show 0≤1 - l by grind) (show (0:Rat)≤1 by decide+kernel)
       grind
      ·have a1:=mulp' (show 0≤-l by grind) (show 0≤1+t by grind)
       have a2:0≤1+l:=by grind
       grind
    refine Rat.le_trans (Zbb mh).1 (Zcm ?_)
    have a1:0≤(h - t)*(t*h - 1):=mulp' (by grind) (by have:=mulp' (show 0≤t - 1 by grind) (show 0≤h - 1 by grind);grind)
    grind
theorem ZmY {l h t:Rat} (h1:l≤t) (h2:t≤h):sinq t≤(sn3 l h).2:=by
 obtain⟨ml,mh⟩:=Zgb l h
 by_cases hm:l≤1∧1≤h
 ·refine Rat.le_trans ?_ (Zbb (Zkq (.inr rfl) hm.1 hm.2)).2
  rw [ZeB.2.2.2.2.2];exact(Zer t).2.2
 ·by_cases hh:1< l
  ·refine Rat.le_trans (Zcm ?_) (Zbb ml).2
   have a1:0≤(t - l)*(t*l - 1):=mulp' (by grind) (by have:=mulp' (show 0≤t - 1 by grind) (show 0≤l - 1 by grind);grind)
   grind
  ·have hl:h< 1:=by grind
   by_cases hc:t*h≤1
   ·refine Rat.le_trans (Zcm ?_) (Zbb mh).2
    exact mulp' (by grind) (by grind)
   ·have ht1:t< -1:=by
     by_cases g:t< -1
     ·exact g
     ·exfalso
      apply hc
      by_cases g0:h≤0
      ·have:=mulp' (show 0≤1+t by grind) (show 0≤-h by grind)
       grind
      ·have a1:=mulp' (show 0≤h by grind) (show 0≤1 - t by grind)
       grind
    refine Rat.le_trans (Zcm ?_) (Zbb ml).2
    have a1:0≤(t - l)*(t*l - 1):=mulp' (by grind) (by have:=mulp' (show 0≤-1 - t by grind) (show 0≤-1 - l by grind);grind)
    grind
theorem ZhE {p q:Rat} (h:p≤q):c1 p≤c1 q:=by
 unfold c1
 exact Rat.le_floor_iff.2 (Rat.le_trans (Rat.le_floor_iff.1 (Int.le_refl _)) h)
theorem Zmw {p q:Rat} (h:p≤q):c0 p≤c0 q:=by
 have h1:-q≤-p:=by grind
 have:=ZhE h1
 unfold c0;unfold c1 at this;omega
theorem ZjH {x y z t:RV} (hx:x.q≤z.q) (hy:y.q≤t.q) (h1:-4≤x.q) (h2:z.q≤4) (h3:-4≤y.q) (h4:t.q≤4):gridR x y z t=(cellsL (ivl (c0 x.q) (c1 z.q)) (ivl (c0 y.q) (c1 t.q)),0):=by
 have e0:c0 (-4)=-5:=by decide+kernel
 have e1:c1 4=4:=by decide+kernel
 have a1:=Zmw h1;have a2:=ZhE h2;have a3:=Zmw h3;have a4:=ZhE h4
 rw [e0] at a1 a3
 rw [e1] at a2 a4
 have b1:=Zcf hx;have b2:=Zcf hy
 have q1:((-64:Int):Rat)< -4:=by decide+kernel
 have q2:(4:Rat)< ((64:Int):Rat):=by decide+kernel
 unfold gridR
 rw [if_pos ⟨hx,hy⟩,if_pos ⟨⟨by grind,by grind⟩,⟨by grind,by grind⟩⟩,if_neg]
 have hm:(c1 z.q - c0 x.q+1)*(c1 t.q - c0 y.q+1)≤10*10:=Int.mul_le_mul ω ω ω ω
 omega
open Go.RowKit num mem seg q held ratA ratB ratC ratD ratE vars ratF prf natC natD natI sub32 trq
section
variable {K : AV → Prop}
theorem bgR:∃ R:List (RV×RV),R.length=2∧Spec Tryz.prog Tab 14 [.val (.one (.d (.list (List.map rdc ([-1,0,1]:List Rat)))))] (.tup [.one (.d (.list (List.map rdv R))),.one (.d (.v (.int .i64 (0))))]):=⟨RR 2,rfl,Zg0⟩
theorem bgA:areaQ (cvl (sqL 0 0 2))=((4:Int):Rat):=by rw [sq2.1];rfl
theorem bgF:frE 4607182418800017408=0∧frA 4607182418800017408=cn (frLo 4607182418800017408)∧frB 4607182418800017408=cn (frHi 4607182418800017408):=ZlS ωd
theorem bgH:(frLo 4607182418800017408≤1∧1≤frHi 4607182418800017408)∧frHi 4607182418800017408< 2∧qs (frLo 4607182418800017408)≤1000∧qs (frHi 4607182418800017408)≤1000:=by decide+kernel
theorem Zc7 (x y:Int) (hx:-100≤x∧x≤100) (hy:-100≤y∧y≤100):Spec Tryz.prog Tab 32 [int x,int y] (pair (cn (x:Rat)) (cn (y:Rat))):=by
 refine Zh Tryz.func32 rfl rfl Tryz.ntmps32 rfl ωr rfl rfl ?_
 refine k_of (x) ω ω fun q6 h6 z6=> ?_
 simp only [cn_z] at z6
 refine k_of (y) ω ω fun q8 h8 z8=> ?_
 simp only [cn_z] at z8
 refine Eq.trans (b:=pair (cn q6) (cn q8)) ?_ rfl
 subst_vars;rfl
set_option maxHeartbeats 4000000 in
theorem Zf9  :Spec Tryz.prog Tab 5 [] (bool true):=by
 refine Zh Tryz.func5 rfl rfl Tryz.ntmps5 rfl ωr rfl rfl ?_
 refine use (Zc7 0 0 ωd ωd) rfl ?_
 refine use (Zc7 2 0 ωd ωd) rfl ?_
 refine use (Zc7 2 2 ωd ωd) rfl ?_
 refine use (Zc7 0 2 ωd ωd) rfl ?_
 refine Zsu 4607182418800017408 rfl ωd fun x19 y19 n19 hn19 hx19 hy19=> ?_
 obtain⟨bf1,bf2,bf3⟩:=bgF
 obtain⟨⟨bh1,bh2⟩,bh3,bh4,bh5⟩:=bgH
 obtain rfl:x19=cn (frLo 4607182418800017408):=hx19.trans bf2
 obtain rfl:y19=cn (frHi 4607182418800017408):=hy19.trans bf3
 obtain rfl:n19=0:=hn19.trans bf1
 refine k_of (-1) ω ω fun q23 h23 z23=> ?_
 simp only [cn_z] at z23
 refine k_of (0) ω ω fun q24 h24 z24=> ?_
 simp only [cn_z] at z24
 refine k_of (1) ω ω fun q25 h25 z25=> ?_
 simp only [cn_z] at z25
 obtain rfl:q23=(-1:Rat):=h23.trans ωk
 obtain rfl:q24=(0:Rat):=h24.trans ωk
 obtain rfl:q25=(1:Rat):=h25.trans ωk
 obtain⟨R2,hR2,hR3⟩:=bgR
 refine use hR3 rfl ?_
 have hR4:(List.map rdv R2).length=2:=by rw [List.length_map,hR2]
 refine Zqk (l:=cvl (sqL 0 0 2)) (ZsL ωk) ωd fun p q r u hp hq hr hu=> ?_
 have ep:p=(0:Rat):=hp.trans (by simp only [bx1,cvl,sqL,List.map,xsQ,cn_q];decide+kernel)
 have eq:q=(0:Rat):=hq.trans (by simp only [bx2,cvl,sqL,List.map,ysQ,cn_q];decide+kernel)
 have er:r=(2:Rat):=hr.trans (by simp only [bx3,cvl,sqL,List.map,xsQ,cn_q];decide+kernel)
 have eu:u=(2:Rat):=hu.trans (by simp only [bx4,cvl,sqL,List.map,ysQ,cn_q];decide+kernel)
 subst ep
 subst eq
 subst er
 subst eu
 have hgr:=ZnY (cn 0) (cn 0) (cn 2) (cn 2) (by rw [cn_z];exact ωk) (by rw [cn_z];exact ωk) (by rw [cn_z];exact ωk) (by rw [cn_z];exact ωk)
 have hgn:gridR (cn 0) (cn 0) (cn 2) (cn 2)=((cellsL (ivl (c0 0) (c1 2)) (ivl (c0 0) (c1 2))),0):=by
  have h:=ZjH (x:=cn 0) (y:=cn 0) (z:=cn 2) (t:=cn 2) (by simp only [cn_q];decide+kernel) (by simp only [cn_q];decide+kernel) (by simp only [cn_q];decide+kernel) (by simp only [cn_q];decide+kernel) (by simp only [cn_q];decide+kernel) (by simp only [cn_q];decide+kernel)
  simpa only [cn_q] using h
 rw [hgn] at hgr
 have hcl:(CL (cellsL (ivl (c0 0) (c1 2)) (ivl (c0 0) (c1 2)))).length=16:=by unfold CL;rw [List.length_map];decide+kernel
 obtain⟨G2,hG2⟩:∃ G,G=(cellsL (ivl (c0 0) (c1 2)) (ivl (c0 0) (c1 2))):=⟨_,rfl⟩
 rw [← hG2] at hgr hcl
 refine use hgr rfl ?_
 refine k_of (1) ω ω fun q40 h40 z40=> ?_
 simp only [cn_z] at z40
 refine ZcI (x:=cn (frLo 4607182418800017408)) (y:=cn (frHi 4607182418800017408)) (z:=cn q40) ωz ωz ωz (fun b41 hk_41_1=> ?_)
 try simp only [cn_q] at hk_41_1
 refine fork (fun e1=> ?_) (fun e1=> ?_)
 ·have f43:hasQ (slo (cn (frLo 4607182418800017408)) (cn (frHi 4607182418800017408))) (shi (cn (frLo 4607182418800017408)) (cn (frHi 4607182418800017408))) q40=true:=hk_41_1.symm.trans e1
  refine k_of (2) ω ω fun q45 h45 z45=> ?_
  simp only [cn_z] at z45
  refine ZcI (x:=cn (frLo 4607182418800017408)) (y:=cn (frHi 4607182418800017408)) (z:=cn q45) ωz ωz ωz (fun b46 hk_46_1=> ?_)
  try simp only [cn_q] at hk_46_1
  refine fork (fun e2=> ?_) (fun e2=> ?_)
  ·have f49:¬ (hasQ (slo (cn (frLo 4607182418800017408)) (cn (frHi 4607182418800017408))) (shi (cn (frLo 4607182418800017408)) (cn (frHi 4607182418800017408))) q45=true):=fun hh=>absurd (hh.symm.trans (hk_46_1.symm.trans (Zhd e2))) ωd
   refine fork (fun e3=> ?_) (fun e3=> ?_)
   ·have f58:((List.map rdv R2).length:Int)=2:=ZL e3
    refine fork (fun e4=> ?_) (fun e4=> ?_)
    ·have f67:((CL G2).length:Int)=16:=ZL e4
     refine Zqm (l:=cvl (sqL 0 0 2)) (ZsL ωk) ωd fun q69 hq69=> ?_
     refine k_of (4) ω ω fun q70 h70 z70=> ?_
     simp only [cn_z] at z70
     refine Zdu (by rw [hq69,bgA,h70]) ?_
     refine⟨ωr,?_⟩
     refine Eq.trans (b:=bool true) ?_ rfl
     rfl
    ·have f67:¬ (((CL G2).length:Int)=16):=ZM e4
     exfalso
     omega
   ·have f58:¬ (((List.map rdv R2).length:Int)=2):=ZM e3
    exfalso
    omega
  ·have f49:¬ (¬ (hasQ (slo (cn (frLo 4607182418800017408)) (cn (frHi 4607182418800017408))) (shi (cn (frLo 4607182418800017408)) (cn (frHi 4607182418800017408))) q45=true)):=fun hh=>hh (hk_46_1.symm.trans (Zhe e2))
   exfalso
   exact f49 (fun h=>by rw [Zai (Rat.le_trans bh1 bh2),Zaj (Rat.le_trans bh1 bh2),h45] at h;have:=(ZT.1 h).2;exact absurd bh3 (Rat.not_lt.2 this))
 ·have f43:¬ (hasQ (slo (cn (frLo 4607182418800017408)) (cn (frHi 4607182418800017408))) (shi (cn (frLo 4607182418800017408)) (cn (frHi 4607182418800017408))) q40=true):=fun hh=>absurd (hh.symm.trans (hk_41_1.symm.trans e1)) ωd
  exfalso
  exact f43 (by rw [Zai (Rat.le_trans bh1 bh2),Zaj (Rat.le_trans bh1 bh2),h40];exact ZT.2 ⟨bh1,bh2⟩)
end
