/- Joined by wip/bundle.py: XRtuA XRtuB XLawRtu. -/
import Derived.Test.YtgkofgfiifgioaaGreatDoorQGrpRb
import Derived.Test.YtgkofgfiifgioaaGreatDoorQGrpDr
import Derived.Test.YtgkofgfiifgioaaGreatDoorSortQ
import Derived.Test.YtgkofgfiifgioaaGreatDoorQGrpTd
set_option maxRecDepth 100000
namespace Go.Proofs.YtgkofgfiifgioaaGreatDoor.eng
open Go.RowKit num mem seg q held ratA ratB ratC ratD ratE vars ratF prf
section
variable {K : AV → Prop}
theorem Ztr (l:List Rat) (c:Rat) (hn:l.length≤1048576):SpecL Tryz.prog Tab 41 [.val (.one (.row 1000 0)),rat (cn c)] 25 3 (List.map rdc l) (int (ixF c l 0)):=by
 have hL:(List.map rdc l).length=l.length:=List.length_map ..
 refine fn_L 0 [] Tryz.func41 rfl rfl Tryz.ntmps41 rfl ωr rfl rfl rfl ?_
 refine⟨Nat,fun i=> [(0,.val (.one (.row 1000 0))),(3,.val (.one (.ptr 3 0))),(7,int ((List.map rdc l).length:Int)),(8,int (i:Int))],
  fun i=> [(3,.var 25 [.d (.v (.bool (cn c).s)),.d (.v (.string (cn c).a)),.d (.v (.string (cn c).d))]),(1000,.row 25 3 0 (List.map rdc l) true)],fun i=>i≤l.length∧ixF c l 0=ixF c (l.drop i) i,fun i=>l.length - i,0,?_,⟨Nat.zero_le _,rfl⟩,fun i hs=> ?_⟩
 ·exact ωe
 obtain⟨g1,g2⟩:=hs
 refine⟨fun e1=> ?_,fun e1=> ?_⟩
 ·have f9:(i:Int)< ((List.map rdc l).length:Int):=of_decide_eq_true e1
  refine k_at_own' i ωf (by first|omega|(simp only [List.length_set];omega)|(simp;omega)) ?_
  refine get_ex (l:=l) (i:=i) ωm fun x15 hx15=> ?_
  refine ZS [D.v (.bool (cn x15).s),D.v (.string (cn x15).a),D.v (.string (cn x15).d)] _ (Zl hx15) rfl rfl ?_
  refine Zho (fun f16=> ?_) (fun f16=> ?_)
  ·refine⟨ωr,?_⟩
   refine⟨fun _=> ?_,fun e=>absurd e ωd⟩
   refine⟨Eq.trans (b:=int (i:Int)) ?_ rfl,⟨_,rfl,rfl⟩⟩
   rw [g2,Zqs hx15 (ZsU.1 f16).symm]
  ·refine⟨ωr,?_⟩
   refine⟨fun e=>absurd e ωd,fun _=> ?_⟩
   refine⟨i+1,⟨ω,g2.trans (ZnW hx15 fun e=>f16 (by rw [e]))⟩,by simp only;omega,?_⟩
   constructor<;>(repeat' (first|exact rfl|exact True.intro|apply And.intro))
   all_goals first
    |exact ωb
    |exact ωa
 ·have f9:¬ ((i:Int)< ((List.map rdc l).length:Int)):=of_decide_eq_false e1
  refine⟨Eq.trans (b:=int (-1)) ?_ rfl,⟨_,rfl,rfl⟩⟩
  rw [g2,Zqt ω]
theorem ZtB (l:List Rat) (c:Rat) (hn:l.length≤1048576):SpecL Tryz.prog Tab 8 [.val (.one (.row 1000 0)),rat (cn c)] 25 3 (List.map rdc l) (bool (decide (c∈l))):=by
 refine fn_L 0 [100007] Tryz.func8 rfl rfl Tryz.ntmps8 rfl ωr rfl rfl rfl ?_
 refine⟨_,⟨rfl,Ztr l c hn⟩,?_⟩
 refine⟨Eq.trans (b:=bool (decide (ixF c l 0≥0))) ?_ rfl,⟨_,rfl,rfl⟩⟩
 rw [show decide (ixF c l 0≥0)=decide (c∈l) from decide_eq_decide.2 ZlC]
def rcV (q:Rat):List Value:= [.bool (cn q).s,.string (cn q).a,.string (cn q).d]
def okQ (q:Rat):Prop:=qs q≤1048576
instance:Inhabited { q:Rat // okQ q }:=⟨⟨0,by unfold okQ;decide+kernel⟩⟩
theorem Zcw {p q:Rat}:cmpQ p q< 0↔p< q:=ZtF rfl
theorem ZiV:Go.Sort.SWO (ltOf fun (x y:{ q:Rat // okQ q })=>cmpQ x.1 y.1) where
 irrefl x:=by
  unfold ltOf
  rw [decide_eq_false]
  exact fun h=>Rat.lt_irrefl (Zcw.1 h)
 trans x y z h1 h2:=by
  unfold ltOf at*
  have h1:=Zcw.1 (of_decide_eq_true h1)
  have h2:=Zcw.1 (of_decide_eq_true h2)
  exact decide_eq_true (Zcw.2 (by grind))
 ntrans x y z h1 h2:=by
  unfold ltOf at*
  have h1:=of_decide_eq_false h1
  have h2:=of_decide_eq_false h2
  refine decide_eq_false fun h3=> ?_
  rw [Zcw] at h1 h2 h3
  grind
theorem Znl (q:Rat):∀ v,v∈rcV q→flat v=true:=by
 intro v hv
 simp only [rcV,List.mem_cons,List.not_mem_nil,or_false] at hv
 rcases hv with rfl|rfl|rfl<;>rfl
theorem Zki (l:List Rat) (hl:∀ p,p∈l→okQ p) (hn:l.length≤1048576):∃ l':List Rat,l'.Perm l∧l'.Pairwise (fun x y=>¬ y< x)∧
  SpecS Tryz.prog Tab 12 [.val (.one (.row 1000 0)),fv 13] 25 3 (l.map rdc) (.tup []) (l'.map rdc):=by
 have hL:(l.attachWith okQ hl).length=l.length:=by simp
 have hval:(l.attachWith okQ hl).map Subtype.val=l:=by
  apply List.ext_getElem
  ·simp
  ·intro i h1 h2;simp
 have hmap:(l.attachWith okQ hl).map (fun x=>(rcV x.1).map D.v)=l.map rdc:=by
  have:(fun x:{ p:Rat // okQ p }=>(rcV x.1).map D.v)=rdc ∘ Subtype.val:=rfl
  rw [this,← List.map_map,hval]
 obtain⟨l1,h1,h2,h3⟩:=Zko (fun (x y:{ p:Rat // okQ p })=>cmpQ x.1 y.1) ZiV (l.attachWith okQ hl)
 refine⟨l1.map Subtype.val,?_,?_,?_⟩
 ·have:=h1.map Subtype.val
  rwa [hval] at this
 ·rw [List.pairwise_map]
  exact h2.imp fun {a b} h g=>h (Zcw.2 g)
 ·have hs:=Zkp (P:=Tryz.prog) (G:=Tab) (k:=3) (enc:=fun x:{ p:Rat // okQ p }=>rcV x.1) Tryz.sortRat Tryz.isAgg25 Tryz.sizeOf25 (fun _=>rfl) ωd (fun x=>Znl x.1) (fun x y=>cmpQ x.1 y.1) ZiV 13
   (Zm Tryz.func13 rfl rfl) (fun x y w hG=>Zfg (show Spec Tryz.prog Tab 13 [rat (cn x.1),rat (cn y.1)] (int (cmpQ x.1 y.1)) from by
    have h:=ZfN (cn x.1) (cn y.1) (by rw [cn_z];have:=x.2;unfold okQ at this;omega) (by rw [cn_z];have:=y.2;unfold okQ at this;omega)
    rwa [cn_q,cn_q] at h) rfl hG (Zg3 rfl)) 25 (l.attachWith okQ hl) (by rw [hL];omega)
  rw [h3,hmap] at hs
  have e:(l1.map Subtype.val).map rdc=l1.map fun x=>(rcV x.1).map D.v:=by rw [List.map_map];rfl
  rw [e]
  exact hs
end
open Go.RowKit num mem seg q held ratA ratB ratC ratD ratE vars ratF prf natC natD natI sub32 trq
section
variable {K : AV → Prop}
set_option maxHeartbeats 4000000 in
theorem ZdV (l:List Int) (hl:∀ x,x∈l→-9223372036854775808≤x∧x≤9223372036854775807) (k:Int) (hk:-9223372036854775808≤k∧k≤9223372036854775807):Spec Tryz.prog Tab 3 [.val (.one (.d (.list (List.map stD l)))),int k] (bool true):=by
 have hz00:z0.z≤1:=by rw [z0z];decide
 have hnl:=ZrY l
 have hLn:(List.map stD (nlI l)).length=(nlI l).length:=List.length_map ..
 have hLl:(List.map stD l).length=l.length:=List.length_map ..
 refine ZcJ [100040,400005,500082] Tryz.func3 rfl rfl Tryz.ntmps3 rfl ωr rfl rfl ?_
 refine use Zf9 rfl ?_
 refine⟨fun e=>absurd e ωd,fun _=> ?_⟩
 refine k_of 1 ωd ωd fun q24 h24 z24=> ?_
 refine Zsc (min l.length 4) (List.map stD (nlI l)) (by first|omega|(simp;omega)|simp) ωf (Zik fun _=>rfl) (List.map_take.symm) ?_
 refine⟨Nat,fun i=> [(1,int k),(5,.val (.one (.d (.list (List.map rdc (ine.mkp (rvT (nlI l) i))))))),(6,.val (.one (.row 44 0))),(30,.val (.one (.d (.list (List.map stD (nlI l)))))),(31,int ((List.map stD (nlI l)).length:Int)),(32,int (i:Int))],
  fun i=> [(44,.row 25 3 0 (List.map rdc ((rvT (nlI l) i).reverse)) true)],fun i=>i≤(nlI l).length,fun i=>(nlI l).length - i,0,?_,Nat.zero_le _,fun i hs=> ?_⟩
 ·constructor<;>(repeat' (first|exact rfl|exact True.intro|exact⟨_,_,rfl⟩|exact ωd|apply And.intro))
  all_goals first
   |(rw [h24];rfl)
   |exact ωa
   |(simp;done)
 have hrl:=ZgW (nlI l) i
 have hzb:=Zb4 (R:=rvT (nlI l) i) ω (ZcP (nlI l) i)
 have hml:=ine.mkp_len (rvT (nlI l) i)
 have hLp:(List.map rdc (ine.mkp (rvT (nlI l) i))).length=(ine.mkp (rvT (nlI l) i)).length:=List.length_map ..
 have hLr:(List.map rdc (rvT (nlI l) i).reverse).length=(rvT (nlI l) i).length:=by rw [List.length_map,List.length_reverse]
 have hw47:IntKind.i64.wrap (((List.map rdc (ine.mkp (rvT (nlI l) i))).length:Int)+1)=((ine.mkp (rvT (nlI l) i)).length:Int)+1:=by rw [hLp];exact wrap64 _ ω ω
 have hw48:IntKind.i64.wrap (((ine.mkp (rvT (nlI l) i)).length:Int)+1)=((ine.mkp (rvT (nlI l) i)).length:Int)+1:=wrap64 _ ω ω
 refine⟨fun e1=> ?_,fun e1=> ?_⟩
 ·have f33:(i:Int)< ((List.map stD (nlI l)).length:Int):=of_decide_eq_true e1
  refine get_ex (l:=(nlI l)) (i:=i) ωm fun x34 hx34=> ?_
  have hx34b:=hl x34 (List.mem_of_mem_take (List.mem_of_getElem? hx34))
  have hrz:(cn (ratM x34)).z≤2:=by rw [cn_z];exact Zk4 (Zh6 x34)
  refine k_ix i [D.v (.int .i64 (x34))] ωf (Zl hx34) rfl ?_
  refine use (ZmK x34 hx34b) rfl ?_
  refine⟨_,⟨rfl,ZtB (rvT (nlI l) i).reverse (ratM x34) (by rw [List.length_reverse];omega)⟩,?_⟩
  refine⟨fun e2=> ?_,fun e2=> ?_⟩
  ·have f40:ratM x34∈(rvT (nlI l) i).reverse:=(of_decide_eq_true e2)
   have hnx:=ZrE hx34 (List.mem_reverse.1 f40)
   refine⟨i+1,ω,by simp only;omega,?_⟩
   constructor<;>(repeat' (first|(set_option maxHeartbeats 20000 in exact rfl)|exact True.intro|apply And.intro))
   all_goals first
    |(rw [hnx];rfl)
    |(rw [hnx];done)
    |exact ωb
    |exact ωa
  ·have f40:¬ (ratM x34∈(rvT (nlI l) i).reverse):=(of_decide_eq_false e2)
   refine⟨⟨row1 rfl,(by show ((List.map rdc ((rvT (nlI l) i).reverse)).length+1)*40≤_;omega),(by show ((List.map rdc ((rvT (nlI l) i).reverse)).length+1)≤_;omega)⟩,?_⟩
   refine⟨⟨ω,rfl,(by show (IntKind.i64.wrap (((List.map rdc (ine.mkp (rvT (nlI l) i))).length:Int)+1))*40≤_;omega),ω⟩,?_⟩
   refine⟨Nat,fun j=> [(1,int k),(6,.val (.one (.row 44 0))),(9,.val (.one (.ptr 9 0))),(10,.val (.one (.row 48 0))),(30,.val (.one (.d (.list (List.map stD (nlI l)))))),(31,int ((List.map stD (nlI l)).length:Int)),(32,int (i:Int)),(49,.val (.one (.d (.list (List.map rdc (ine.mkp (rvT (nlI l) i))))))),(50,int ((List.map rdc (ine.mkp (rvT (nlI l) i))).length:Int)),(51,int (j:Int))],
    fun j=> [(9,.var 25 [.d (.v (.bool (cn (ratM x34)).s)),.d (.v (.string (cn (ratM x34)).a)),.d (.v (.string (cn (ratM x34)).d))]),(44,.row 25 3 0 (List.map rdc ((rvT (nlI l) i).reverse)++ [[D.v (.bool (cn (ratM x34)).s),D.v (.string (cn (ratM x34)).a),D.v (.string (cn (ratM x34)).d)]]) true),(48,.row 25 3 0 (mlF (ine.mkp (rvT (nlI l) i)) (ratM x34) j) true)],fun j=>j≤(ine.mkp (rvT (nlI l) i)).length,fun j=>(ine.mkp (rvT (nlI l) i)).length - j,0,?_,Nat.zero_le _,fun j hs=> ?_⟩
   ·constructor<;>(repeat' (first|exact rfl|exact True.intro|exact⟨_,_,rfl⟩|exact ωd|apply And.intro))
    all_goals first
     |exact ZnF ω
     |exact(ZnF ω).symm
     |exact(ZnF (by rw [hw48];omega)).symm
     |exact ZnF (by rw [hw48];omega)
     |exact ωa
     |(simp;done)
   have hmz:=Ztj (r:=ratM x34) (j:=j) hzb ωd
   have hMl:=Zcq (ine.mkp (rvT (nlI l) i)) (ratM x34) j
   refine⟨fun e3=> ?_,fun e3=> ?_⟩
   ·have f52:(j:Int)< ((List.map rdc (ine.mkp (rvT (nlI l) i))).length:Int):=of_decide_eq_true e3
    refine get_ex (l:=(ine.mkp (rvT (nlI l) i))) (i:=j) ωm fun x54 hx54=> ?_
    have hqx:qs x54≤6:=hzb _ (List.mem_of_getElem? hx54)
    have hqz:(cn x54).z≤6:=by rw [cn_z];exact hqx
    refine k_ix j [D.v (.bool (cn x54).s),D.v (.string (cn x54).a),D.v (.string (cn x54).d)] ωf (Zl hx54) rfl ?_
    refine k_at_own' (j+1) ωf (by first|omega|(simp only [List.length_set];omega)|(simp;omega)) ?_
    refine ZS [D.v (.bool z0.s),D.v (.string z0.a),D.v (.string z0.d)] _ (Zr2 ω) rfl rfl ?_
    refine Za9 (x:=z0) (y:=cn x54) ω ω fun q65 h65 z65=> ?_
    simp only [cn_q] at h65
    refine k_at_own' (j+1) ωf (by first|omega|(simp only [List.length_set];omega)|(simp;omega)) ?_
    refine⟨by first|omega|(simp only [List.length_set];omega)|(simp;omega),?_⟩
    refine⟨ωr,?_⟩
    refine k_at_own' j ωf (by first|omega|(simp only [List.length_set];omega)|(simp;omega)) ?_
    refine ZS [D.v (.bool (mlR (ine.mkp (rvT (nlI l) i)) (ratM x34) j j).s),D.v (.string (mlR (ine.mkp (rvT (nlI l) i)) (ratM x34) j j).a),D.v (.string (mlR (ine.mkp (rvT (nlI l) i)) (ratM x34) j j).d)] _ (Zp8 ω) rfl rfl ?_
    refine Za8 (x:=cn x54) (y:=cn (ratM x34)) ω ω fun q75 h75 z75=> ?_
    simp only [cn_q] at h75
    refine Zb6 (x:=mlR (ine.mkp (rvT (nlI l) i)) (ratM x34) j j) (y:=cn q75) ω ω fun q76 h76 z76=> ?_
    simp only [cn_q] at h76
    refine k_at_own' j ωf (by first|omega|(simp only [List.length_set];omega)|(simp;omega)) ?_
    refine⟨by first|omega|(simp only [List.length_set];omega)|(simp;omega),?_⟩
    refine⟨ωr,?_⟩
    have e65:q65=x54:=by rw [h65,z0q];grind
    have e76:((mlF (ine.mkp (rvT (nlI l) i)) (ratM x34) j).set (j+1) (rdc q65)).set j (rdc q76)=mlF (ine.mkp (rvT (nlI l) i)) (ratM x34) (j+1):=by rw [h76,h75,e65];exact ZnE hx54
    refine⟨j+1,ω,by simp only;omega,?_⟩
    constructor<;>(repeat' (first|(set_option maxHeartbeats 20000 in exact rfl)|exact True.intro|apply And.intro))
    all_goals first
     |exact e76
     |exact e76.symm
     |exact ωb
     |exact ωb
     |exact ωa
   ·have f52:¬ ((j:Int)< ((List.map rdc (ine.mkp (rvT (nlI l) i))).length:Int)):=of_decide_eq_false e3
    have hnx:=ZpL hx34 (fun g=>f40 (List.mem_reverse.2 g))
    obtain rfl:j=(ine.mkp (rvT (nlI l) i)).length:=ω
    have hm5:List.map rdc (ine.mkp (rvT (nlI l) (i+1)))=mlF (ine.mkp (rvT (nlI l) i)) (ratM x34) (ine.mkp (rvT (nlI l) i)).length:=by rw [hnx,Zr1]
    have hrv:List.map rdc (rvT (nlI l) (i+1)).reverse=List.map rdc (rvT (nlI l) i).reverse++ [rdc (ratM x34)]:=by rw [hnx,List.reverse_cons,List.map_append];rfl
    refine⟨i+1,ω,by simp only;omega,?_⟩
    constructor<;>(repeat' (first|(set_option maxHeartbeats 20000 in exact rfl)|exact True.intro|apply And.intro))
    all_goals first
     |(rw [hrv];rfl)
     |exact⟨_,_,_,rfl,congrArg D.list hm5⟩
     |exact congrArg D.list hm5
     |exact ωb
     |exact ωa
 ·have f33:¬ ((i:Int)< ((List.map stD (nlI l)).length:Int)):=of_decide_eq_false e1
  obtain rfl:i=(nlI l).length:=ω
  have hnd:=Zox (nlI l) (nlI l).length
  have hni:=ZcP (nlI l) (nlI l).length
  have hr4:=ZgW (nlI l) (nlI l).length
  obtain⟨rs,rs1,rs2,rs3⟩:=Zki (rvT (nlI l) (nlI l).length).reverse (fun p hp=>ZoH (hni p (List.mem_reverse.1 hp))) (by rw [List.length_reverse];omega)
  have rs4:=rs1.trans (List.reverse_perm _)
  have rs5:=Zjd hnd rs4 rs2
  have rs6:=rs4.length_eq
  obtain⟨C,M,Rf,t1,t2,t3,t4,t5⟩:=Zni (rs:=rs) hnd ω hni rs4 rs5
  have hrf:=t4.len
  have hLrs:(List.map rdc rs).length=rs.length:=List.length_map ..
  have hLrf:(List.map spD Rf).length=Rf.length:=List.length_map ..
  refine⟨.tup [],List.map rdc rs,⟨rfl,rs3⟩,?_⟩
  refine use t5 rfl ?_
  refine⟨fun e4=> ?_,fun e4=> ?_⟩
  ·have f96:((List.map spD Rf).length:Int)≠((List.map rdc rs).length:Int):=Zoi e4
   exfalso
   omega
  ·have f96:¬ (((List.map spD Rf).length:Int)≠((List.map rdc rs).length:Int)):=fun hh=>hh (Zoj e4)
   refine use (Zcy k 200 hk ωd) rfl ?_
   have hb0:=Int.emod_nonneg k (show (200:Int)≠0 by decide)
   have hb1:=Int.emod_lt_of_pos k (show (0:Int)< 200 by decide)
   have hbw:IntKind.i64.wrap (1+(k % 200))=1+k % 200:=wrap64 _ ω ω
   have hbr:((IntKind.i64.wrap (1+(k % 200)):Int):Rat)≠0:=fun e=>by have:=Rat.intCast_inj.1 (show ((IntKind.i64.wrap (1+(k % 200)):Int):Rat)=((0:Int):Rat) from e);omega
   refine Zis 1 (IntKind.i64.wrap (1+(k % 200))) ωd ωd ω ω hbr fun q101 h101 z101=> ?_
   rw [hbw] at h101
   have hwd:=ZmN hb0 hb1 h101
   have hwz:qs q101≤17:=by rw [← cn_z];exact z101
   refine⟨Nat,fun j=> [(5,.val (.one (.d (.list (List.map rdc (ine.mkp (rvT (nlI l) (nlI l).length))))))),(13,.val (.one (.d (.list (List.map spD Rf))))),(15,.val (.one (.ptr 15 0))),(104,.val (.one (.row 44 0))),(105,int ((List.map rdc rs).length:Int)),(106,int (j:Int))],
    fun j=> [(15,.var 25 [.d (.v (.bool (cn q101).s)),.d (.v (.string (cn q101).a)),.d (.v (.string (cn q101).d))]),(44,.row 25 3 0 (List.map rdc rs) true)],fun j=>j≤rs.length,fun j=>rs.length - j,0,?_,Nat.zero_le _,fun j hs=> ?_⟩
   ·exact ωe
   refine⟨fun e5=> ?_,fun e5=> ?_⟩
   ·have f107:(j:Int)< ((List.map rdc rs).length:Int):=of_decide_eq_true e5
    refine k_at_own' j ωf (by first|omega|(simp only [List.length_set];omega)|(simp;omega)) ?_
    refine get_ex (l:=rs) (i:=j) ωm fun x110 hx110=> ?_
    have hrx:qs x110≤1048576:=ZoH (hni _ (rs4.mem_iff.1 (List.mem_of_getElem? hx110)))
    have hrz:(cn x110).z≤1048576:=by rw [cn_z];exact hrx
    refine ZS [D.v (.bool (cn x110).s),D.v (.string (cn x110).a),D.v (.string (cn x110).d)] _ (Zl hx110) rfl rfl ?_
    refine get_ex (l:=Rf) (i:=j) ωm fun x115 hx115=> ?_
    refine k_ix j [D.v (.bool (cn x115.1).s),D.v (.string (cn x115.1).a),D.v (.string (cn x115.1).d),D.v (.bool (cn x115.2).s),D.v (.string (cn x115.2).a),D.v (.string (cn x115.2).d)] ωf (Zl hx115) rfl ?_
    have hF:=ZqA t1 t2 t3 (t4.at_ j x115 x110 hx115 hx110).1 (t4.at_ j x115 x110 hx115 hx110).2.1 (t4.at_ j x115 x110 hx115 hx110).2.2 hwd ω
    have hFs:=Classical.choose_spec hF
    have hF1:=hFs.1
    have hF2:=hFs.2.1
    have hFz1:(cn (Classical.choose hF).1).z≤400:=by rw [cn_z];exact hF2.1
    have hFz2:(cn (Classical.choose hF).2).z≤400:=by rw [cn_z];exact hF2.2
    have hFle:=Rat.le_trans hF1.1 hF1.2
    refine use hFs.2.2 rfl ?_
    refine⟨ωr,?_⟩
    refine ZnQ (x:=cn x110) ω fun q122 h122 z122=> ?_
    rw [cn_q] at h122
    replace h122:=h122.symm
    subst h122
    refine ZcI (x:=cn (Classical.choose hF).1) (y:=cn (Classical.choose hF).2) (z:=cn x110) ω ω ω fun b128 hb128=> ?_
    rw [Zai hFle,Zaj hFle,cn_q,ZT.2 hF1] at hb128
    subst hb128
    refine Zsb (x:=cn (Classical.choose hF).1) (y:=cn (Classical.choose hF).2) ω ω fun ya133 yb133 ha133 hb133 s133 za133 zb133=> ?_
    rw [Zai hFle,Zaj hFle] at ha133 hb133
    have in133:=ZqL hF1.1 hF1.2
    rw [← ha133,← hb133] at in133
    have z1331:(cn ya133).z≤4000:=by rw [cn_z];omega
    have z1332:(cn yb133).z≤4000:=by rw [cn_z];omega
    replace s133:ya133≤yb133:=s133
    refine Zsd (h:=false) (x:=cn x110) ω fun q135 h135 z135=> ?_
    rw [cn_q] at h135
    subst h135
    refine ZcI (x:=cn ya133) (y:=cn yb133) (z:=cn (cosq false x110)) ω ω ω fun b136 hb136=> ?_
    rw [Zai s133,Zaj s133,cn_q,ZT.2 in133] at hb136
    subst hb136
    refine Zsa (x:=cn (Classical.choose hF).1) (y:=cn (Classical.choose hF).2) ω ω fun ya141 yb141 ha141 hb141 s141 za141 zb141=> ?_
    rw [Zai hFle,Zaj hFle] at ha141 hb141
    have in141:=(show _∧_ from⟨ZpI hF1.1 hF1.2,ZmY hF1.1 hF1.2⟩)
    rw [← ha141,← hb141] at in141
    have z1411:(cn ya141).z≤4000:=by rw [cn_z];omega
    have z1412:(cn yb141).z≤4000:=by rw [cn_z];omega
    replace s141:ya141≤yb141:=s141
    refine Zlt (h:=false) (x:=cn x110) ω fun q143 h143 z143=> ?_
    rw [ZeC,cn_q] at h143
    subst h143
    refine ZcI (x:=cn ya141) (y:=cn yb141) (z:=cn (sinq x110)) ω ω ω fun b144 hb144=> ?_
    rw [Zai s141,Zaj s141,cn_q,ZT.2 in141] at hb144
    subst hb144
    refine Ze3 (p:=ine.mkp (rvT (nlI l) (nlI l).length)) (x:=cn x110) t1.z ω fun q150 h150 z150=> ?_
    rw [cn_q,ZiI,ine.mkp_root _ _ (rs4.mem_iff.1 (List.mem_of_getElem? hx110))] at h150
    subst h150
    refine ZcH (x:=cn (0:Rat)) ωc fun n151 h151=> ?_
    rw [cn_q,show sgnQ 0=0 from by decide+kernel] at h151
    subst h151
    refine⟨ωr,?_⟩
    refine⟨fun e=>absurd e ωd,fun _=> ?_⟩
    refine⟨j+1,ω,by simp only;omega,?_⟩
    constructor<;>(repeat' (first|(set_option maxHeartbeats 20000 in exact rfl)|exact True.intro|apply And.intro))
    all_goals first
     |exact ωb
     |exact ωa
   ·have f107:¬ ((j:Int)< ((List.map rdc rs).length:Int)):=of_decide_eq_false e5
    refine Eq.trans (b:=bool true) ?_ rfl
    rfl
end
open argopen
section
variable {K : AV → Prop}
theorem rootsTurn_walk (v0:Value) (l:List Int) (k:Int) (N:Nat) (w:World) (_:1≤N) (_:N≤1048576)
  (h0:Den w (fun b=>b< w.heap.size) v0 (.list (l.map intD))) (l0:argopen.intsZ l N) (hk:-9223372036854775808≤k∧k≤9223372036854775807) (hT:Tab w):
  Calls Tryz.prog 3 #[v0,.int .i64 k] w fun e w'=>e= .returned (.bool true)∧Below w.heap.size w w':=
 ZdY (I:=fun b=>b< w.heap.size) (ZdV l l0.2 k hk) rfl hT (fun _ h=>h)
  ((Zg3 (vs:= [int k]) rfl).cons (show DenAV _ _ _ _ v0 (.val (.one (.d (.list _)))) from h0))
end
