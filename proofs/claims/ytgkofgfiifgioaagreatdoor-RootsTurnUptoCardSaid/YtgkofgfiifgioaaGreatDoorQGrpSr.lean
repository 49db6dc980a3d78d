/- Joined by wip/bundle.py: XStrA XStrB XStrC XStrD XStrE. -/
import Derived.Test.YtgkofgfiifgioaaGreatDoorQGrpSt
import Derived.Test.YtgkofgfiifgioaaGreatDoorQGrpTa
import Derived.Test.YtgkofgfiifgioaaGreatDoorQGrpY
set_option maxHeartbeats 4000000
set_option maxRecDepth 100000
namespace Go.Proofs.YtgkofgfiifgioaaGreatDoor.eng
open Go.RowKit num mem seg q held ratA ratB ratC ratD ratE vars ratF prf trq
section
variable {K : AV → Prop}
def lsC (C:List (List Rat)):List Rat:=(C[C.length - 1]?).getD []
def ngL (l:List Rat) (i:Nat):List Rat:=(l.take i).map fun x=> -x
theorem ZcV {l:List Rat} {i:Nat} {x:Rat} (h:l[i]? =some x):ngL l (i+1)=ngL l i++ [-x]:=by unfold ngL;rw [List.take_add_one,h];simp
theorem Zk5 (l:List Rat) {i:Nat} (h:i≤l.length):(ngL l i).length=i:=by unfold ngL;rw [List.length_map,List.length_take];omega
theorem ZoI {l:List Rat} {i:Nat} (h:l.length≤i):ngL l i=l.map fun x=> -x:=by unfold ngL;rw [List.take_of_length_le h]
def cnT (s:List (List Rat)×List Rat):List (List Rat)×List Rat:=if s.2= [] then s else (s.1++ [scQ s.2],(dvF (lsC s.1) (scQ s.2)).2.map fun x=> -x)
def cnS (p:List Rat):Nat→List (List Rat)×List Rat
 |0=>([p],trP (drF p (p.length - 1)))
 |t+1=>cnT (cnS p t)
def cnF (p:List Rat):List (List Rat):=(cnS p p.length).1
def cnZ (p:List Rat):Prop:=zO p∧∀ t,zO (cnS p t).2∧(∀ a,a∈(cnS p t).1→zO a)∧zO (scQ (cnS p t).2)∧dvZ (lsC (cnS p t).1) (scQ (cnS p t).2)
theorem Zgn {p q:List Rat} {C:List (List Rat)} {t:Nat} (h:cnS p t=(C,q)) (h0:q≠ []):cnS p (t+1)=(C++ [scQ q],(dvF (lsC C) (scQ q)).2.map fun x=> -x):=by
 show cnT (cnS p t)=_
 rw [h];exact if_neg h0
theorem ZdL {p : List Rat} {t : Nat} (h : (cnS p t).2 = []) : ∀ n, t ≤ n → cnS p n = cnS p t := by
  intro n
  induction n with
  | zero => intro hn; obtain rfl : t = 0 := ω
            rfl
  | succ n ih =>
    intro hn
    by_cases e : t = n + 1
    · rw [e]
    · have := ih ω
      show cnT (cnS p n) = _
      rw [this]; exact if_pos h
theorem ZrZ {q:List Rat} (h:gdP q):gdP (q.map fun x=> -x):=by
 intro d hd
 rw [List.length_map,List.getElem?_map] at hd
 cases e:q[q.length - 1]? with
 |none=>rw [e] at hd;simp at hd
 |some c=>
  rw [e] at hd
  obtain rfl:-c=d:=Option.some.inj hd
  have:=h c e
  grind
theorem Zim (C:List (List Rat)) (q:List Rat):lsC (C++ [q])=q:=by unfold lsC;simp
theorem ZoL {C:List (List Rat)} (h:C≠ []) (q:List Rat):(List.map chD C++ [[D.list (List.map rdc q)]])[C.length - 1]? =some [D.list (List.map rdc (lsC C))]:=by
 have h0:0< C.length:=List.length_pos_iff.2 h
 rw [List.getElem?_append_left (by rw [List.length_map];omega),List.getElem?_map]
 unfold lsC
 rw [List.getElem?_eq_getElem (show C.length - 1< C.length by omega)];rfl
theorem Zlh (C:List (List Rat)) (q:List Rat):(List.map chD C++ [[D.list (List.map rdc q)]])[C.length]? =some [D.list (List.map rdc q)]:=by
 rw [List.getElem?_append_right (by rw [List.length_map];omega),List.length_map,Nat.sub_self];rfl
theorem Zlg {C:List (List Rat)} (h:C≠ []):lsC C∈C:=by
 have h0:0< C.length:=List.length_pos_iff.2 h
 unfold lsC
 rw [List.getElem?_eq_getElem (show C.length - 1< C.length by omega)]
 exact List.getElem_mem _
structure CnI (p:List Rat) (t:Nat) (C:List (List Rat)) (q:List Rat):Prop where
 eq:cnS p t=(C,q)
 ne:C≠ []
 gd:gdP q
 gl:lsQ (lsC C)≠0∧lsC C≠ []
 len:t+q.length+1≤p.length
 cl:C.length=t+1
theorem ZtJ {p:List Rat} (h0:p≠ []) (hg:gdP p):CnI p 0 [p] (trP (drF p (p.length - 1))) where
 eq:=rfl
 ne:=by simp
 gd:=Zda _
 gl:=⟨Zdx hg h0,h0⟩
 len:=by
  have h1:0< p.length:=List.length_pos_iff.2 h0
  have h2:(trP (drF p (p.length - 1))).length≤p.length - 1:=by
   unfold trP trQ
   have h3:=ZhS ((drF p (p.length - 1)).map cn)
   rw [List.length_map,ZdG] at h3
   rw [Zcj (by rw [List.length_map,ZdG];exact h3)];exact h3
  omega
 cl:=rfl
theorem Zkv {q:List Rat} (h:q≠ []):scQ q≠ []:=fun e=>h (List.map_eq_nil_iff.1 e)
theorem Zfe {p q:List Rat} {t:Nat} {C:List (List Rat)} (h:CnI p t C q) (h0:q≠ []):CnI p (t+1) (C++ [scQ q]) ((dvF (lsC C) (scQ q)).2.map fun x=> -x):=by
 have hs:=Zkv h0
 have hg:=ZfI h.gd
 have hl:=Zdx hg hs
 have hp:0< (scQ q).length:=List.length_pos_iff.2 hs
 refine⟨Zgn h.eq h0,by simp,ZrZ (ZiL _ _ _),by rw [Zim];exact⟨hl,hs⟩,?_,by rw [List.length_append,h.cl];rfl⟩
 have h1:=Zeq (p:=lsC C) hp hl
 have h2:=h.len
 rw [Zaw] at h1
 rw [List.length_map];omega
theorem Zmm {p q:List Rat} {t:Nat} {C:List (List Rat)} (h:CnI p t C q) (h0:q= []):cnF p=C:=by
 have e:(cnS p t).2= []:=by rw [h.eq];exact h0
 unfold cnF
 rw [ZdL e _ (by have:=h.len;omega),h.eq]
def cqA (t:Nat) (q:List Rat):AV:=match t,q with
 |0,q=> .val (.one (.d (.list (List.map rdc q))))
 |_+1, []=> .val (.one (.full []))
 |_+1,_ :: _=> .val (.one (.row 49 0))
def cqO (t:Nat) (q:List Rat):List (Nat×Ob):=match t,q with
 |0,_=> []
 |_+1, []=> []
 |_+1,x :: r=> [(49,.row 25 3 0 (List.map rdc (x :: r)) true)]
def ciA (i:Nat):AV:=match i with
 |0=> .val (.one (.full []))
 |_+1=> .val (.one (.row 49 0))
def ciO (l:List Rat) (i:Nat):List (Nat×Ob):=match i with
 |0=> []
 |i+1=> [(49,.row 25 3 0 (List.map rdc (ngL l (i+1))) true)]
structure CnJ (p:List Rat) (t:Nat) (C:List (List Rat)) (q:List Rat):Prop where
 it:CnI p t C q
theorem Zgq (p:List Rat) (hp0:p≠ []) (hg:gdP p) (hZ:cnZ p):Spec Tryz.prog Tab 120 [.val (.one (.d (.list (List.map rdc p))))] (.val (.one (.d (.list (List.map chD (cnF p)))))):=by
 refine ZcJ [10] Tryz.func120 rfl rfl Tryz.ntmps120 rfl ωr rfl rfl ?_
 refine⟨trivial,?_⟩
 refine ZoX (a:=trP (drF p (p.length - 1))) hZ.1 rfl ?_
 refine⟨Nat×List (List Rat)×List Rat,fun (t,C,q)=> [(3,.val (.one (.row 10 0))),(4,cqA t q)],
  fun (t,C,q)=> [(10,.row 27 1 0 (List.map chD C) true)]++cqO t q,fun (t,C,q)=>CnJ p t C q,fun (t,C,q)=>q.length,(0, [p],trP (drF p (p.length - 1))),?_,⟨ZtJ hp0 hg⟩,fun s hs=> ?_⟩
 ·exact ωe
 obtain⟨t,C,q⟩:=s
 obtain⟨ci⟩:=hs
 rcases t with _|t
 ·refine⟨fun e1=> ?_,fun e1=> ?_⟩
  ·have f15:((List.map rdc q).length:Int) >0:=of_decide_eq_true e1
   have hne:q≠ []:=fun e=>by rw [e] at f15;simp at f15
   have hcz:=hZ.2 0
   rw [ci.eq] at hcz
   obtain⟨hz1,hz2,hz3,hz4⟩:=hcz
   refine Ziq (p:=q) (a:=scQ q) hz1 ci.gd rfl ?_
   have hLC:(List.map chD C).length=C.length:=List.length_map ..
   have hLC2:(List.map chD C++ [[D.list (List.map rdc (scQ q))]]).length=C.length+1:=by simp
   have hcl:=ci.cl
   have hcn:=ci.len
   have hpz:=hZ.1.1
   refine⟨⟨row1 rfl,(by show ((List.map chD C).length+1)*24≤_;omega),(by show ((List.map chD C).length+1)≤_;omega)⟩,?_⟩
   refine k_at_own' (C.length - 1) ωf (by first|omega|(simp;done)|decide) ?_
   refine ZS [D.list (List.map rdc (lsC C))] _ (ZoL ci.ne _) rfl rfl ?_
   refine k_at_own' C.length ωf (by first|omega|(simp;done)|decide) ?_
   refine ZS [D.list (List.map rdc (scQ q))] _ (Zlh C _) rfl rfl ?_
   obtain⟨dv,hdv⟩:∃ d:List Rat×List Rat,dvF (lsC C) (scQ q)=d:=⟨_,rfl⟩
   have hsp:0< (scQ q).length:=List.length_pos_iff.2 (Zkv hne)
   have hsl:=Zdx (ZfI ci.gd) (Zkv hne)
   have hlt:=Zeq (p:=lsC C) hsp hsl
   rw [hdv] at hlt
   have hzc:zO (lsC C):=hz2 _ (Zlg ci.ne)
   have hdz:∀ c,c∈dv.2→qs c≤1048576:=by rw [← hdv];exact fun c hc=>(hz4 _).2 c hc
   have hdl:dv.2.length≤1048576:=Nat.le_of_lt (Nat.lt_of_lt_of_le hlt (Nat.le_trans (by rw [Zaw];exact Nat.le_refl _) hz1.1))
   refine Ziu (a:=dv.1) (b:=dv.2) hzc hz3 hsp hsl hz4 hdv ?_
   have hLd:(List.map rdc dv.2).length=dv.2.length:=List.length_map ..
   refine⟨ωr,?_⟩
   refine⟨_,⟨rfl,rfl,rfl⟩,?_⟩
   refine⟨Nat,fun i=> [(3,.val (.one (.row 10 0))),(4,ciA i),(39,.val (.one (.d (.list (List.map rdc dv.2))))),(40,int ((List.map rdc dv.2).length:Int)),(41,int (i:Int))],
    fun i=> [(10,.row 27 1 0 (List.map chD C++ [[D.list (List.map rdc (scQ q))]]) true)]++ciO dv.2 i,fun i=>i≤dv.2.length,fun i=>dv.2.length - i,0,?_,Nat.zero_le _,fun i hs=> ?_⟩
   ·exact ωe
   rcases i with _|i
   ·refine⟨fun e2=> ?_,fun e2=> ?_⟩
    ·have f42:((0:Nat):Int)< ((List.map rdc dv.2).length:Int):=of_decide_eq_true e2
     refine get_ex (l:=dv.2) (i:=0) ωm fun x43 hx43=> ?_
     have hzx43:=hdz x43 (List.mem_of_getElem? hx43)
     refine k_ix 0 [D.v (.bool (cn x43).s),D.v (.string (cn x43).a),D.v (.string (cn x43).d)] ωf (Zl hx43) rfl ?_
     refine ZbG (x:=cn x43) ωz fun q47 h47 z47=> ?_
     simp only [cn_z] at z47
     simp only [cn_q] at h47
     refine⟨⟨Nat.zero_lt_succ _,(fun r hr=>by simp at hr),row1 rfl,(by show (0+1)*40≤_;omega),(by show 0+1≤_;omega)⟩,?_⟩
     have e47:q47=-x43:=h47
     refine⟨0+1,ω,by simp only;omega,?_⟩
     constructor<;>(repeat' (first|exact rfl|exact True.intro|apply And.intro))
     all_goals first
      |(rw [ZcV hx43,List.map_append,← e47];rfl)
      |exact ωb
      |exact ωa
    ·have f42:¬ (((0:Nat):Int)< ((List.map rdc dv.2).length:Int)):=of_decide_eq_false e2
     have hys:(dv.2.map fun x=> -x)= []:=by rw [List.map_eq_nil_iff];exact List.length_eq_zero_iff.1 ω
     refine⟨(0+1,C++ [scQ q], []),⟨by rw [← hys,← hdv];exact Zfe ci hne⟩,by show 0< _;exact List.length_pos_iff.2 hne,?_⟩
     constructor<;>(repeat' (first|exact rfl|exact True.intro|apply And.intro))
     all_goals first
      |(rw [List.map_append];rfl)
      |exact ωb
      |exact ωa
   ·have hngl:(List.map rdc (ngL dv.2 (i+1))).length=i+1:=by rw [List.length_map,Zk5 _ ω]
    refine⟨fun e3=> ?_,fun e3=> ?_⟩
    ·have f42:((i+1:Nat):Int)< ((List.map rdc dv.2).length:Int):=of_decide_eq_true e3
     refine get_ex (l:=dv.2) (i:=(i+1)) ωm fun x43 hx43=> ?_
     have hzx43:=hdz x43 (List.mem_of_getElem? hx43)
     refine k_ix (i+1) [D.v (.bool (cn x43).s),D.v (.string (cn x43).a),D.v (.string (cn x43).d)] ωf (Zl hx43) rfl ?_
     refine ZbG (x:=cn x43) ωz fun q47 h47 z47=> ?_
     simp only [cn_z] at z47
     simp only [cn_q] at h47
     refine⟨⟨row1 rfl,(by show ((List.map rdc (ngL dv.2 (i+1))).length+1)*40≤_;omega),(by show ((List.map rdc (ngL dv.2 (i+1))).length+1)≤_;omega)⟩,?_⟩
     have e47:q47=-x43:=h47
     refine⟨i+1+1,ω,by simp only;omega,?_⟩
     constructor<;>(repeat' (first|exact rfl|exact True.intro|apply And.intro))
     all_goals first
      |(rw [ZcV hx43,List.map_append,← e47];rfl)
      |exact ωb
      |exact ωa
    ·have f42:¬ (((i+1:Nat):Int)< ((List.map rdc dv.2).length:Int)):=of_decide_eq_false e3
     obtain⟨y,s,hys⟩:∃ y s,(dv.2.map fun x=> -x)=y :: s:=List.exists_cons_of_length_pos (by rw [List.length_map];omega)
     refine⟨(0+1,C++ [scQ q],y :: s),⟨by rw [← hys,← hdv];exact Zfe ci hne⟩,by show (y :: s).length< _;rw [← hys,List.length_map];rw [Zaw] at hlt;exact hlt,?_⟩
     constructor<;>(repeat' (first|exact rfl|exact True.intro|apply And.intro))
     all_goals first
      |(rw [List.map_append];rfl)
      |(rw [ZoI ω,hys])
      |exact ωb
      |exact ωa
  ·have f15:¬ (((List.map rdc q).length:Int) >0):=of_decide_eq_false e1
   refine Eq.trans (b:= .val (.one (.d (.list (List.map chD C))))) ?_ rfl
   rw [Zmm ci (by have hLq:(List.map rdc q).length=q.length:=List.length_map ..;exact List.length_eq_zero_iff.1 ω)]
 ·rcases q with _|⟨x,r⟩
  ·refine⟨fun e4=> ?_,fun e4=> ?_⟩
   ·have f15:(([]).length:Int) >0:=of_decide_eq_true e4
    exfalso
    simp at f15
   ·have f15:¬ ((([]).length:Int) >0):=of_decide_eq_false e4
    refine Eq.trans (b:= .val (.one (.d (.list (List.map chD C))))) ?_ rfl
    rw [Zmm ci rfl]
  ·refine⟨fun e5=> ?_,fun e5=> ?_⟩
   ·have f15:((List.map rdc (x :: r)).length:Int) >0:=of_decide_eq_true e5
    have hne:(x :: r)≠ []:=by simp
    have hcz:=hZ.2 (t+1)
    rw [ci.eq] at hcz
    obtain⟨hz1,hz2,hz3,hz4⟩:=hcz
    refine Ziq (p:=(x :: r)) (a:=scQ (x :: r)) hz1 ci.gd rfl ?_
    have hLC:(List.map chD C).length=C.length:=List.length_map ..
    have hLC2:(List.map chD C++ [[D.list (List.map rdc (scQ (x :: r)))]]).length=C.length+1:=by simp
    have hcl:=ci.cl
    have hcn:=ci.len
    have hpz:=hZ.1.1
    refine⟨⟨row1 rfl,(by show ((List.map chD C).length+1)*24≤_;omega),(by show ((List.map chD C).length+1)≤_;omega)⟩,?_⟩
    refine k_at_own' (C.length - 1) ωf (by first|omega|(simp;done)|decide) ?_
    refine ZS [D.list (List.map rdc (lsC C))] _ (ZoL ci.ne _) rfl rfl ?_
    refine k_at_own' C.length ωf (by first|omega|(simp;done)|decide) ?_
    refine ZS [D.list (List.map rdc (scQ (x :: r)))] _ (Zlh C _) rfl rfl ?_
    obtain⟨dv,hdv⟩:∃ d:List Rat×List Rat,dvF (lsC C) (scQ (x :: r))=d:=⟨_,rfl⟩
    have hsp:0< (scQ (x :: r)).length:=List.length_pos_iff.2 (Zkv hne)
    have hsl:=Zdx (ZfI ci.gd) (Zkv hne)
    have hlt:=Zeq (p:=lsC C) hsp hsl
    rw [hdv] at hlt
    have hzc:zO (lsC C):=hz2 _ (Zlg ci.ne)
    have hdz:∀ c,c∈dv.2→qs c≤1048576:=by rw [← hdv];exact fun c hc=>(hz4 _).2 c hc
    have hdl:dv.2.length≤1048576:=Nat.le_of_lt (Nat.lt_of_lt_of_le hlt (Nat.le_trans (by rw [Zaw];exact Nat.le_refl _) hz1.1))
    refine Ziu (a:=dv.1) (b:=dv.2) hzc hz3 hsp hsl hz4 hdv ?_
    have hLd:(List.map rdc dv.2).length=dv.2.length:=List.length_map ..
    refine⟨ωr,?_⟩
    refine⟨_,⟨rfl,rfl,rfl⟩,?_⟩
    refine⟨Nat,fun i=> [(3,.val (.one (.row 10 0))),(4,ciA i),(39,.val (.one (.d (.list (List.map rdc dv.2))))),(40,int ((List.map rdc dv.2).length:Int)),(41,int (i:Int))],
     fun i=> [(10,.row 27 1 0 (List.map chD C++ [[D.list (List.map rdc (scQ (x :: r)))]]) true)]++ciO dv.2 i,fun i=>i≤dv.2.length,fun i=>dv.2.length - i,0,?_,Nat.zero_le _,fun i hs=> ?_⟩
    ·exact ωe
    rcases i with _|i
    ·refine⟨fun e6=> ?_,fun e6=> ?_⟩
     ·have f42:((0:Nat):Int)< ((List.map rdc dv.2).length:Int):=of_decide_eq_true e6
      refine get_ex (l:=dv.2) (i:=0) ωm fun x43 hx43=> ?_
      have hzx43:=hdz x43 (List.mem_of_getElem? hx43)
      refine k_ix 0 [D.v (.bool (cn x43).s),D.v (.string (cn x43).a),D.v (.string (cn x43).d)] ωf (Zl hx43) rfl ?_
      refine ZbG (x:=cn x43) ωz fun q47 h47 z47=> ?_
      simp only [cn_z] at z47
      simp only [cn_q] at h47
      refine⟨⟨Nat.zero_lt_succ _,(fun r hr=>by simp at hr),row1 rfl,(by show (0+1)*40≤_;omega),(by show 0+1≤_;omega)⟩,?_⟩
      have e47:q47=-x43:=h47
      refine⟨0+1,ω,by simp only;omega,?_⟩
      constructor<;>(repeat' (first|exact rfl|exact True.intro|apply And.intro))
      all_goals first
       |(rw [ZcV hx43,List.map_append,← e47];rfl)
       |exact ωb
       |exact ωa
     ·have f42:¬ (((0:Nat):Int)< ((List.map rdc dv.2).length:Int)):=of_decide_eq_false e6
      have hys:(dv.2.map fun x=> -x)= []:=by rw [List.map_eq_nil_iff];exact List.length_eq_zero_iff.1 ω
      refine⟨((t+1)+1,C++ [scQ (x :: r)], []),⟨by rw [← hys,← hdv];exact Zfe ci hne⟩,by show 0< _;exact List.length_pos_iff.2 hne,?_⟩
      constructor<;>(repeat' (first|exact rfl|exact True.intro|apply And.intro))
      all_goals first
       |(rw [List.map_append];rfl)
       |exact ωb
       |exact ωa
    ·have hngl:(List.map rdc (ngL dv.2 (i+1))).length=i+1:=by rw [List.length_map,Zk5 _ ω]
     refine⟨fun e7=> ?_,fun e7=> ?_⟩
     ·have f42:((i+1:Nat):Int)< ((List.map rdc dv.2).length:Int):=of_decide_eq_true e7
      refine get_ex (l:=dv.2) (i:=(i+1)) ωm fun x43 hx43=> ?_
      have hzx43:=hdz x43 (List.mem_of_getElem? hx43)
      refine k_ix (i+1) [D.v (.bool (cn x43).s),D.v (.string (cn x43).a),D.v (.string (cn x43).d)] ωf (Zl hx43) rfl ?_
      refine ZbG (x:=cn x43) ωz fun q47 h47 z47=> ?_
      simp only [cn_z] at z47
      simp only [cn_q] at h47
      refine⟨⟨row1 rfl,(by show ((List.map rdc (ngL dv.2 (i+1))).length+1)*40≤_;omega),(by show ((List.map rdc (ngL dv.2 (i+1))).length+1)≤_;omega)⟩,?_⟩
      have e47:q47=-x43:=h47
      refine⟨i+1+1,ω,by simp only;omega,?_⟩
      constructor<;>(repeat' (first|exact rfl|exact True.intro|apply And.intro))
      all_goals first
       |(rw [ZcV hx43,List.map_append,← e47];rfl)
       |exact ωb
       |exact ωa
     ·have f42:¬ (((i+1:Nat):Int)< ((List.map rdc dv.2).length:Int)):=of_decide_eq_false e7
      obtain⟨y,s,hys⟩:∃ y s,(dv.2.map fun x=> -x)=y :: s:=List.exists_cons_of_length_pos (by rw [List.length_map];omega)
      refine⟨((t+1)+1,C++ [scQ (x :: r)],y :: s),⟨by rw [← hys,← hdv];exact Zfe ci hne⟩,by show (y :: s).length< _;rw [← hys,List.length_map];rw [Zaw] at hlt;exact hlt,?_⟩
      constructor<;>(repeat' (first|exact rfl|exact True.intro|apply And.intro))
      all_goals first
       |(rw [List.map_append];rfl)
       |(rw [ZoI ω,hys])
       |exact ωb
       |exact ωa
   ·have f15:¬ (((List.map rdc (x :: r)).length:Int) >0):=of_decide_eq_false e5
    exfalso
    simp at f15
end
section
variable {K : AV → Prop}
structure RdyOk (p:List Rat) (C:List (List Rat)):Prop where
 z:zO p
 n0:trP p≠ []
 n13:(trP p).length≤13
 pl:plZ (trP p)
 pn:plQ (trP p)≠ []
 cz:cnZ (plQ (trP p))
 eq:cnF (plQ (trP p))=C
 chz:chZ C
 pos:0< C.length
theorem ZrT (p:List Rat):gdP (plQ p):=ZfI (Zda _)
theorem ZeN {p:List Rat} {C:List (List Rat)} (h:RdyOk p C):Spec Tryz.prog Tab 49 [.val (.one (.d (.list (List.map rdc p))))] (.tup [.one (.d (.list (List.map chD C))),.one (.d (.v (.int .i64 (0))))]):=by
 have hL:(List.map rdc (trP p)).length=(trP p).length:=List.length_map ..
 have h0:0< (trP p).length:=List.length_pos_iff.2 h.n0
 have h13:=h.n13
 refine Zh Tryz.func49 rfl rfl Tryz.ntmps49 rfl ωr rfl rfl ?_
 refine use (Zj7 p h.z) rfl ?_
 refine⟨fun e1=> ?_,fun e1=> ?_⟩
 ·have f6:((List.map rdc (trP p)).length:Int)=0:=ZL e1
  exfalso
  omega
 ·have f6:¬ (((List.map rdc (trP p)).length:Int)=0):=ZM e1
  refine⟨fun e2=> ?_,fun e2=> ?_⟩
  ·have f10:((List.map rdc (trP p)).length:Int) >13:=of_decide_eq_true e2
   exfalso
   omega
  ·have f10:¬ (((List.map rdc (trP p)).length:Int) >13):=of_decide_eq_false e2
   refine use (ZcC (trP p) h.n0 (Zda p) h.pl) rfl ?_
   have hch:=Zgq (plQ (trP p)) h.pn (ZrT _) h.cz
   rw [h.eq] at hch
   refine use hch rfl ?_
   refine Eq.trans (b:= .tup [.one (.d (.list (List.map chD C))),.one (.d (.v (.int .i64 (0))))]) ?_ rfl
   rfl
end
section
variable {K : AV → Prop}
def c0C (C:List (List Rat)):List Rat:=(C[0]?).getD []
def byQ (d:Rat):Nat→Rat
 |0=>d
 |j+1=>byQ d j*mdQ ((0:Int):Rat) ((1:Int):Rat)
def nrC (C:List (List Rat)) (m b:Rat):Prop:=ctN C (m - b) (m+b)=1∧¬ evP (c0C C) (m - b)=0∧¬ evP (c0C C) (m+b)=0
structure NrOk (C:List (List Rat)) (m d:Rat) (J:Nat):Prop where
 pos:1≤J
 z:∀ j,j≤J→qs (byQ d j)≤200000
 no:∀ j,1≤j→j< J→¬ nrC C m (byQ d j)
 yes:nrC C m (byQ d J)
inductive Spl (C:List (List Rat)):Rat→Rat→List (Rat×Rat)→Prop where
 |none {x y:Rat}:qs x≤200000→qs y≤200000→ctN C x y=0→Spl C x y []
 |one {x y:Rat}:qs x≤200000→qs y≤200000→ctN C x y=1→Spl C x y [(x,y)]
 |two {x y:Rat} {L1 L2:List (Rat×Rat)}:qs x≤200000→qs y≤200000→ctN C x y≠0→ctN C x y≠1→¬ evP (c0C C) (mdQ x y)=0→Spl C x (mdQ x y) L1→Spl C (mdQ x y) y L2→Spl C x y (L1++L2)
 |mid {x y:Rat} {L1 L2:List (Rat×Rat)} (J:Nat):qs x≤200000→qs y≤200000→ctN C x y≠0→ctN C x y≠1→evP (c0C C) (mdQ x y)=0→NrOk C (mdQ x y) (y - mdQ x y) J→
   Spl C x (mdQ x y - byQ (y - mdQ x y) J) L1→Spl C (mdQ x y+byQ (y - mdQ x y) J) y L2→Spl C x y (L1++(mdQ x y,mdQ x y) :: L2)
def spD (s:Rat×Rat):List D:=rdv (cn s.1,cn s.2)
theorem Zbx {x y m:Rat} (hx:qs x≤400000) (hy:qs y≤400000) (e:mdQ x y=m) (k:qs m≤qs x+qs y+40→K (rat (cn m))):Ask 122 [pair (cn x) (cn y)] K:=
 Ze0 ωn ωn fun q hq hz=>by
  rw [cn_q,cn_q,e] at hq
  subst hq
  simp only [cn_z] at hz
  exact k hz
theorem Zac {C:List (List Rat)} {x:Rat} (hC:chZ C) (hx:qs x≤1048576) (hn:0< C.length) (k:K (bool (decide (evP (c0C C) x=0)))):Ask 123 [.val (.one (.d (.list (List.map chD C)))),rat (cn x)] K:=
 Zhk hC (by rw [cn_z];exact hx) hn (cn_q x) k
theorem ZaA {C:List (List Rat)} {x y:Rat} {n:Int} (hC:chZ C) (hx:qs x≤1048576) (hy:qs y≤1048576) (hn:0< C.length) (h:ctN C x y=n) (k:K (int n)):Ask 55 [.val (.one (.d (.list (List.map chD C)))),pair (cn x) (cn y)] K:=
 Ze2 hC (by rw [cn_z];exact hx) (by rw [cn_z];exact hy) hn (cn_q x) (cn_q y) (by rw [h];exact k)
theorem Zqn {x:Rat} (hx:qs x≤1048576) (k:K (pair (cn x) (cn x))):Ask 61 [rat (cn x)] K:=ZoS ωn (cn_q x) k
theorem ZmV {C:List (List Rat)} (hC:chZ C) (hn:0< C.length) {x y:Rat} (hx:qs x≤200000) (hy:qs y≤200000) (hc:ctN C x y=0):Spec Tryz.prog Tab 51 [.val (.one (.d (.list (List.map chD C)))),.val (.one (.d (.v (.slice none 0 0)))),pair (cn x) (cn y)] ((.val (.one (.d (.v (.slice none 0 0)))))):=by
 refine Zo3 [] Tryz.func51 rfl rfl Tryz.ntmps51 rfl ωr rfl rfl ?_
 refine ZaA (n:=ctN C x y) hC ω ω hn rfl ?_
 refine⟨fun e1=> ?_,fun e1=> ?_⟩
 ·have f14:ctN C x y=0:=ZL e1
  exact trivial
 ·have f14:¬ (ctN C x y=0):=ZM e1
  exfalso
  exact f14 hc
theorem Zru {C:List (List Rat)} (hC:chZ C) (hn:0< C.length) {x y:Rat} (hx:qs x≤200000) (hy:qs y≤200000) (hc:ctN C x y=0) (Z:List (Rat×Rat)) (hZ:Z.length≤1048000):SpecT Tryz.prog Tab 51 [.val (.one (.d (.list (List.map chD C)))),.val (.one (.row 1000 0)),pair (cn x) (cn y)] 40 6 (List.map spD Z) 40 6 (List.map spD (Z++ [])):=by
 refine fn_T [] Tryz.func51 rfl rfl Tryz.ntmps51 rfl ωr rfl rfl ?_
 refine ZaA (n:=ctN C x y) hC ω ω hn rfl ?_
 refine⟨fun e1=> ?_,fun e1=> ?_⟩
 ·have f14:ctN C x y=0:=ZL e1
  rw [List.append_nil]
  all_goals exact rfl
 ·have f14:¬ (ctN C x y=0):=ZM e1
  exfalso
  exact f14 hc
theorem Zrt {C:List (List Rat)} (hC:chZ C) (hn:0< C.length) {x y:Rat} (hx:qs x≤200000) (hy:qs y≤200000) (hc:ctN C x y=1):SpecR Tryz.prog Tab 51 [.val (.one (.d (.list (List.map chD C)))),.val (.one (.d (.v (.slice none 0 0)))),pair (cn x) (cn y)] 40 6 (List.map spD [(x,y)]):=by
 refine ZlV Tryz.func51 rfl rfl Tryz.ntmps51 rfl ωr rfl rfl ?_
 refine ZaA (n:=ctN C x y) hC ω ω hn rfl ?_
 refine⟨fun e1=> ?_,fun e1=> ?_⟩
 ·have f14:ctN C x y=0:=ZL e1
  exfalso
  omega
 ·have f14:¬ (ctN C x y=0):=ZM e1
  refine⟨fun e2=> ?_,fun e2=> ?_⟩
  ·have f18:ctN C x y=1:=ZL e2
   refine⟨⟨row1 rfl,(by show 1*80≤_;omega),(by show 1≤_;omega)⟩,?_⟩
   exact rfl
  ·have f18:¬ (ctN C x y=1):=ZM e2
   exfalso
   exact f18 hc
theorem Zrs {C:List (List Rat)} (hC:chZ C) (hn:0< C.length) {x y:Rat} (hx:qs x≤200000) (hy:qs y≤200000) (hc:ctN C x y=1) (Z:List (Rat×Rat)) (hZ:Z.length≤1048000):SpecT Tryz.prog Tab 51 [.val (.one (.d (.list (List.map chD C)))),.val (.one (.row 1000 0)),pair (cn x) (cn y)] 40 6 (List.map spD Z) 40 6 (List.map spD (Z++ [(x,y)])):=by
 have hL:(List.map spD Z).length=Z.length:=List.length_map ..
 refine fn_T [] Tryz.func51 rfl rfl Tryz.ntmps51 rfl ωr rfl rfl ?_
 refine ZaA (n:=ctN C x y) hC ω ω hn rfl ?_
 refine⟨fun e1=> ?_,fun e1=> ?_⟩
 ·have f14:ctN C x y=0:=ZL e1
  exfalso
  omega
 ·have f14:¬ (ctN C x y=0):=ZM e1
  refine⟨fun e2=> ?_,fun e2=> ?_⟩
  ·have f18:ctN C x y=1:=ZL e2
   refine⟨⟨row1 rfl,(by show ((List.map spD Z).length+1)*80≤_;omega),(by show ((List.map spD Z).length+1)≤_;omega)⟩,?_⟩
   rw [List.map_append]
   all_goals exact rfl
  ·have f18:¬ (ctN C x y=1):=ZM e2
   exfalso
   exact f18 hc
theorem ZmU {C:List (List Rat)} (hC:chZ C) (hn:0< C.length) {x y:Rat} (hx:qs x≤200000) (hy:qs y≤200000) (hc0:ctN C x y≠0) (hc1:ctN C x y≠1) (hmid:¬ evP (c0C C) (mdQ x y)=0) {L1 L2:List (Rat×Rat)} (hl:L1.length+L2.length≤500) (H1:Spec Tryz.prog Tab 51 [.val (.one (.d (.list (List.map chD C)))),.val (.one (.d (.v (.slice none 0 0)))),pair (cn x) (cn (mdQ x y))] (.val (.one (.d (.v (.slice none 0 0)))))) (H2:Spec Tryz.prog Tab 51 [.val (.one (.d (.list (List.map chD C)))),.val (.one (.d (.v (.slice none 0 0)))),pair (cn (mdQ x y)) (cn y)] (.val (.one (.d (.v (.slice none 0 0)))))):Spec Tryz.prog Tab 51 [.val (.one (.d (.list (List.map chD C)))),.val (.one (.d (.v (.slice none 0 0)))),pair (cn x) (cn y)] ((.val (.one (.d (.v (.slice none 0 0)))))):=by
 obtain⟨m,hm⟩:∃ m,m=mdQ x y:=⟨_,rfl⟩
 rw [← hm] at hmid H1 H2
 have hL1:(List.map spD L1).length=L1.length:=List.length_map ..
 refine Zo3 [38,43] Tryz.func51 rfl rfl Tryz.ntmps51 rfl ωr rfl rfl ?_
 refine ZaA (n:=ctN C x y) hC ω ω hn rfl ?_
 refine⟨fun e1=> ?_,fun e1=> ?_⟩
 ·have f14:ctN C x y=0:=ZL e1
  exfalso
  exact hc0 f14
 ·have f14:¬ (ctN C x y=0):=ZM e1
  refine⟨fun e2=> ?_,fun e2=> ?_⟩
  ·have f18:ctN C x y=1:=ZL e2
   exfalso
   exact hc1 f18
  ·have f18:¬ (ctN C x y=1):=ZM e2
   refine Zbx ω ω hm.symm fun zm=> ?_
   refine Zac hC ω hn ?_
   rw [decide_eq_false hmid]
   refine⟨fun _=> ?_,fun e=>absurd e ωd⟩
   refine use H1 rfl ?_
   refine use H2 rfl ?_
   refine⟨ωr,?_⟩
   exact trivial
theorem ZpF {C:List (List Rat)} (hC:chZ C) (hn:0< C.length) {x y:Rat} (hx:qs x≤200000) (hy:qs y≤200000) (hc0:ctN C x y≠0) (hc1:ctN C x y≠1) (hmid:¬ evP (c0C C) (mdQ x y)=0) {L1 L2:List (Rat×Rat)} (hl:L1.length+L2.length≤500) (H1:Spec Tryz.prog Tab 51 [.val (.one (.d (.list (List.map chD C)))),.val (.one (.d (.v (.slice none 0 0)))),pair (cn x) (cn (mdQ x y))] (.val (.one (.d (.v (.slice none 0 0)))))) (H2:SpecR Tryz.prog Tab 51 [.val (.one (.d (.list (List.map chD C)))),.val (.one (.d (.v (.slice none 0 0)))),pair (cn (mdQ x y)) (cn y)] 40 6 (List.map spD L2)):SpecR Tryz.prog Tab 51 [.val (.one (.d (.list (List.map chD C)))),.val (.one (.d (.v (.slice none 0 0)))),pair (cn x) (cn y)] 40 6 (List.map spD L2):=by
 obtain⟨m,hm⟩:∃ m,m=mdQ x y:=⟨_,rfl⟩
 rw [← hm] at hmid H1 H2
 have hL1:(List.map spD L1).length=L1.length:=List.length_map ..
 refine Zdz [38,43] Tryz.func51 rfl rfl Tryz.ntmps51 rfl ωr rfl rfl ?_
 refine ZaA (n:=ctN C x y) hC ω ω hn rfl ?_
 refine⟨fun e1=> ?_,fun e1=> ?_⟩
 ·have f14:ctN C x y=0:=ZL e1
  exfalso
  exact hc0 f14
 ·have f14:¬ (ctN C x y=0):=ZM e1
  refine⟨fun e2=> ?_,fun e2=> ?_⟩
  ·have f18:ctN C x y=1:=ZL e2
   exfalso
   exact hc1 f18
  ·have f18:¬ (ctN C x y=1):=ZM e2
   refine Zbx ω ω hm.symm fun zm=> ?_
   refine Zac hC ω hn ?_
   rw [decide_eq_false hmid]
   refine⟨fun _=> ?_,fun e=>absurd e ωd⟩
   refine use H1 rfl ?_
   refine useN H2 ?_
   refine⟨ωr,?_⟩
   exact rfl
theorem ZpH {C:List (List Rat)} (hC:chZ C) (hn:0< C.length) {x y:Rat} (hx:qs x≤200000) (hy:qs y≤200000) (hc0:ctN C x y≠0) (hc1:ctN C x y≠1) (hmid:¬ evP (c0C C) (mdQ x y)=0) {L1 L2:List (Rat×Rat)} (hl:L1.length+L2.length≤500) (H1:SpecR Tryz.prog Tab 51 [.val (.one (.d (.list (List.map chD C)))),.val (.one (.d (.v (.slice none 0 0)))),pair (cn x) (cn (mdQ x y))] 40 6 (List.map spD L1)) (H2:SpecT Tryz.prog Tab 51 [.val (.one (.d (.list (List.map chD C)))),.val (.one (.row 1000 0)),pair (cn (mdQ x y)) (cn y)] 40 6 (List.map spD L1) 40 6 (List.map spD (L1++L2))):SpecR Tryz.prog Tab 51 [.val (.one (.d (.list (List.map chD C)))),.val (.one (.d (.v (.slice none 0 0)))),pair (cn x) (cn y)] 40 6 (List.map spD (L1++L2)):=by
 obtain⟨m,hm⟩:∃ m,m=mdQ x y:=⟨_,rfl⟩
 rw [← hm] at hmid H1 H2
 have hL1:(List.map spD L1).length=L1.length:=List.length_map ..
 refine Zdz [38,43] Tryz.func51 rfl rfl Tryz.ntmps51 rfl ωr rfl rfl ?_
 refine ZaA (n:=ctN C x y) hC ω ω hn rfl ?_
 refine⟨fun e1=> ?_,fun e1=> ?_⟩
 ·have f14:ctN C x y=0:=ZL e1
  exfalso
  exact hc0 f14
 ·have f14:¬ (ctN C x y=0):=ZM e1
  refine⟨fun e2=> ?_,fun e2=> ?_⟩
  ·have f18:ctN C x y=1:=ZL e2
   exfalso
   exact hc1 f18
  ·have f18:¬ (ctN C x y=1):=ZM e2
   refine Zbx ω ω hm.symm fun zm=> ?_
   refine Zac hC ω hn ?_
   rw [decide_eq_false hmid]
   refine⟨fun _=> ?_,fun e=>absurd e ωd⟩
   refine useN H1 ?_
   refine⟨_,_,_,H2,?_⟩
   refine⟨ωr,?_⟩
   exact rfl
theorem ZpG {C:List (List Rat)} (hC:chZ C) (hn:0< C.length) {x y:Rat} (hx:qs x≤200000) (hy:qs y≤200000) (hc0:ctN C x y≠0) (hc1:ctN C x y≠1) (hmid:¬ evP (c0C C) (mdQ x y)=0) (Z:List (Rat×Rat)) (hZ:Z.length≤1048000) {L1 L2:List (Rat×Rat)} (hl:L1.length+L2.length≤500) (H1:SpecT Tryz.prog Tab 51 [.val (.one (.d (.list (List.map chD C)))),.val (.one (.row 1000 0)),pair (cn x) (cn (mdQ x y))] 40 6 (List.map spD Z) 40 6 (List.map spD (Z++L1))) (H2:SpecT Tryz.prog Tab 51 [.val (.one (.d (.list (List.map chD C)))),.val (.one (.row 1000 0)),pair (cn (mdQ x y)) (cn y)] 40 6 (List.map spD (Z++L1)) 40 6 (List.map spD ((Z++L1)++L2))):SpecT Tryz.prog Tab 51 [.val (.one (.d (.list (List.map chD C)))),.val (.one (.row 1000 0)),pair (cn x) (cn y)] 40 6 (List.map spD Z) 40 6 (List.map spD ((Z++L1)++L2)):=by
 obtain⟨m,hm⟩:∃ m,m=mdQ x y:=⟨_,rfl⟩
 rw [← hm] at hmid H1 H2
 have hL1:(List.map spD L1).length=L1.length:=List.length_map ..
 refine fn_T [38,43] Tryz.func51 rfl rfl Tryz.ntmps51 rfl ωr rfl rfl ?_
 refine ZaA (n:=ctN C x y) hC ω ω hn rfl ?_
 refine⟨fun e1=> ?_,fun e1=> ?_⟩
 ·have f14:ctN C x y=0:=ZL e1
  exfalso
  exact hc0 f14
 ·have f14:¬ (ctN C x y=0):=ZM e1
  refine⟨fun e2=> ?_,fun e2=> ?_⟩
  ·have f18:ctN C x y=1:=ZL e2
   exfalso
   exact hc1 f18
  ·have f18:¬ (ctN C x y=1):=ZM e2
   refine Zbx ω ω hm.symm fun zm=> ?_
   refine Zac hC ω hn ?_
   rw [decide_eq_false hmid]
   refine⟨fun _=> ?_,fun e=>absurd e ωd⟩
   refine⟨_,_,_,H1,?_⟩
   refine⟨_,_,_,H2,?_⟩
   refine⟨ωr,?_⟩
   exact rfl
theorem Zro {C:List (List Rat)} (hC:chZ C) (hn:0< C.length) {x y:Rat} (hx:qs x≤200000) (hy:qs y≤200000) (hc0:ctN C x y≠0) (hc1:ctN C x y≠1) (hmid:evP (c0C C) (mdQ x y)=0) {J:Nat} (hnr:NrOk C (mdQ x y) (y - mdQ x y) J) {L1 L2:List (Rat×Rat)} (hl:L1.length+L2.length≤500) (H1:Spec Tryz.prog Tab 51 [.val (.one (.d (.list (List.map chD C)))),.val (.one (.d (.v (.slice none 0 0)))),pair (cn x) (cn (mdQ x y - byQ (y - mdQ x y) J))] (.val (.one (.d (.v (.slice none 0 0)))))) (H2:SpecT Tryz.prog Tab 51 [.val (.one (.d (.list (List.map chD C)))),.val (.one (.row 1000 0)),pair (cn (mdQ x y+byQ (y - mdQ x y) J)) (cn y)] 40 6 (List.map spD [(mdQ x y,mdQ x y)]) 40 6 (List.map spD ([(mdQ x y,mdQ x y)]++L2))):SpecR Tryz.prog Tab 51 [.val (.one (.d (.list (List.map chD C)))),.val (.one (.d (.v (.slice none 0 0)))),pair (cn x) (cn y)] 40 6 (List.map spD (([(mdQ x y,mdQ x y)])++L2)):=by
 obtain⟨m,hm⟩:∃ m,m=mdQ x y:=⟨_,rfl⟩
 rw [← hm] at hmid hnr H1 H2
 obtain⟨d,hd⟩:∃ d,d=y - m:=⟨_,rfl⟩
 rw [← hd] at hnr H1 H2
 try rw [← hm]
 have hLZ:(List.map spD ([]:List (Rat×Rat))).length=0:=by simp
 have hL1:(List.map spD L1).length=L1.length:=List.length_map ..
 refine Zdz [86,98] Tryz.func51 rfl rfl Tryz.ntmps51 rfl ωr rfl rfl ?_
 refine ZaA (n:=ctN C x y) hC ω ω hn rfl ?_
 refine⟨fun e1=> ?_,fun e1=> ?_⟩
 ·have f14:ctN C x y=0:=ZL e1
  exfalso
  exact hc0 f14
 ·have f14:¬ (ctN C x y=0):=ZM e1
  refine⟨fun e2=> ?_,fun e2=> ?_⟩
  ·have f18:ctN C x y=1:=ZL e2
   exfalso
   exact hc1 f18
  ·have f18:¬ (ctN C x y=1):=ZM e2
   refine Zbx ω ω hm.symm fun zm=> ?_
   refine Zac hC ω hn ?_
   rw [decide_eq_true hmid]
   refine⟨fun e=>absurd e ωd,fun _=> ?_⟩
   refine Zb6 (x:=cn y) (y:=cn m) ωz ωz fun q47 h47 z47=> ?_
   simp only [cn_z] at z47
   simp only [cn_q] at h47
   have e47:q47=byQ d 0:=h47.trans hd.symm
   refine⟨Nat,fun j=> [(0,.val (.one (.d (.list (List.map chD C))))),(1,.val (.one (.d (.v (.slice none 0 0))))),(5,.val (.one (.ptr 5 0))),(8,.val (.one (.ptr 8 0))),(9,.val (.one (.ptr 9 0)))],
    fun j=> [(5,.var 40 [.d (.v (.bool (cn x).s)),.d (.v (.string (cn x).a)),.d (.v (.string (cn x).d)),.d (.v (.bool (cn y).s)),.d (.v (.string (cn y).a)),.d (.v (.string (cn y).d))]),(8,.var 25 [.d (.v (.bool (cn m).s)),.d (.v (.string (cn m).a)),.d (.v (.string (cn m).d))]),(9,.var 25 [.d (.v (.bool (cn (byQ d j)).s)),.d (.v (.string (cn (byQ d j)).a)),.d (.v (.string (cn (byQ d j)).d))])],fun j=>j< J,fun j=>J - j,0,?_,by have:=hnr.pos;omega,fun j hs=> ?_⟩
   ·constructor<;>(repeat' (first|exact rfl|exact True.intro|exact⟨_,_,rfl⟩|exact ωd|apply And.intro))
    all_goals first
     |exact congrArg (fun q:Rat=>D.v (.bool (cn q).s)) e47
     |exact congrArg (fun q:Rat=>D.v (.bool (cn q).s)) e47.symm
     |exact congrArg (fun q:Rat=>D.v (.string (cn q).a)) e47
     |exact congrArg (fun q:Rat=>D.v (.string (cn q).a)) e47.symm
     |exact congrArg (fun q:Rat=>D.v (.string (cn q).d)) e47
     |exact congrArg (fun q:Rat=>D.v (.string (cn q).d)) e47.symm
     |(simp;done)
   have hzj:=hnr.z j ω
   have hzj1:=hnr.z (j+1) ω
   refine k_of (0) ω ω fun q49 h49 z49=> ?_
   simp only [cn_z] at z49
   refine k_of (1) ω ω fun q50 h50 z50=> ?_
   simp only [cn_z] at z50
   refine Zbx (x:=q49) (y:=q50) (m:=mdQ ((0:Int):Rat) ((1:Int):Rat)) ω ω (by rw [h49,h50]) fun zh=> ?_
   refine Za8 (x:=cn (byQ d j)) (y:=cn (mdQ ((0:Int):Rat) ((1:Int):Rat))) ωz ωz fun q53 h53 z53=> ?_
   simp only [cn_z] at z53
   simp only [cn_q] at h53
   have e53:q53=byQ d (j+1):=h53
   refine⟨ωr,?_⟩
   refine Zb6 (x:=cn m) (y:=cn q53) ωz ωz fun q56 h56 z56=> ?_
   simp only [cn_z] at z56
   simp only [cn_q] at h56
   refine Za9 (x:=cn m) (y:=cn q53) ωz ωz fun q59 h59 z59=> ?_
   simp only [cn_z] at z59
   simp only [cn_q] at h59
   refine⟨ωr,?_⟩
   refine ZaA (n:=ctN C q56 q59) hC ω ω hn rfl ?_
   refine fork (fun e3=> ?_) (fun e3=> ?_)
   ·have f65:ctN C q56 q59=1:=ZL e3
    refine Zac (x:=q56) hC ω hn ?_
    refine fork (fun e4=> ?_) (fun e4=> ?_)
    ·have f72:¬ (evP (c0C C) q56=0):=of_decide_eq_false (Zhd e4)
     refine Zac (x:=q59) hC ω hn ?_
     refine⟨fun e5=> ?_,fun e5=> ?_⟩
     ·have f78:¬ (evP (c0C C) q59=0):=of_decide_eq_false (Zhd e5)
      have eJ:J=j+1:=by
       rcases Nat.lt_or_ge (j+1) J with h|h
       ·exfalso;refine hnr.no (j+1) ω h ?_;rw [← e53];exact⟨by rw [← h56,← h59];exact f65,by rw [← h56];exact f72,by rw [← h59];exact f78⟩
       ·omega
      rw [eJ,← e53,← h56] at H1
      rw [eJ,← e53,← h59] at H2
      refine use H1 rfl ?_
      refine Zqn (x:=m) ω ?_
      refine⟨⟨row1 rfl,(by show 1*80≤_;omega),(by show 1≤_;omega)⟩,?_⟩
      refine⟨ωr,?_⟩
      refine⟨_,_,_,H2,?_⟩
      exact rfl
     ·have f78:¬ (¬ (evP (c0C C) q59=0)):=fun hh=>hh (of_decide_eq_true (Zhe e5))
      refine⟨j+1,by
       rcases Nat.lt_or_ge (j+1) J with h|h
       ·exact h
       ·obtain rfl:J=j+1:=ω
        exfalso;obtain⟨n1,n2,n3⟩:=hnr.yes;rw [← e53] at n1 n2 n3;rw [← h56,← h59] at n1;rw [← h56] at n2;rw [← h59] at n3;exact f78 n3,by simp only;omega,?_⟩
      constructor<;>(repeat' (first|exact rfl|exact True.intro|apply And.intro))
      all_goals first
       |exact congrArg (fun q:Rat=>D.v (.bool (cn q).s)) e53
       |exact congrArg (fun q:Rat=>D.v (.bool (cn q).s)) e53.symm
       |exact congrArg (fun q:Rat=>D.v (.string (cn q).a)) e53
       |exact congrArg (fun q:Rat=>D.v (.string (cn q).a)) e53.symm
       |exact congrArg (fun q:Rat=>D.v (.string (cn q).d)) e53
       |exact congrArg (fun q:Rat=>D.v (.string (cn q).d)) e53.symm
       |exact ωb
       |exact ωa
    ·have f72:¬ (¬ (evP (c0C C) q56=0)):=fun hh=>hh (of_decide_eq_true (Zhe e4))
     refine⟨fun e=>absurd e ωd,fun _=> ?_⟩
     refine⟨j+1,by
      rcases Nat.lt_or_ge (j+1) J with h|h
      ·exact h
      ·obtain rfl:J=j+1:=ω
       exfalso;obtain⟨n1,n2,n3⟩:=hnr.yes;rw [← e53] at n1 n2 n3;rw [← h56,← h59] at n1;rw [← h56] at n2;rw [← h59] at n3;exact f72 n2,by simp only;omega,?_⟩
     constructor<;>(repeat' (first|exact rfl|exact True.intro|apply And.intro))
     all_goals first
      |exact congrArg (fun q:Rat=>D.v (.bool (cn q).s)) e53
      |exact congrArg (fun q:Rat=>D.v (.bool (cn q).s)) e53.symm
      |exact congrArg (fun q:Rat=>D.v (.string (cn q).a)) e53
      |exact congrArg (fun q:Rat=>D.v (.string (cn q).a)) e53.symm
      |exact congrArg (fun q:Rat=>D.v (.string (cn q).d)) e53
      |exact congrArg (fun q:Rat=>D.v (.string (cn q).d)) e53.symm
      |exact ωb
      |exact ωa
   ·have f65:¬ (ctN C q56 q59=1):=ZM e3
    refine⟨fun e=>absurd e ωd,fun _=> ?_⟩
    refine⟨j+1,by
     rcases Nat.lt_or_ge (j+1) J with h|h
     ·exact h
     ·obtain rfl:J=j+1:=ω
      exfalso;obtain⟨n1,n2,n3⟩:=hnr.yes;rw [← e53] at n1 n2 n3;rw [← h56,← h59] at n1;rw [← h56] at n2;rw [← h59] at n3;exact f65 n1,by simp only;omega,?_⟩
    constructor<;>(repeat' (first|exact rfl|exact True.intro|apply And.intro))
    all_goals first
     |exact congrArg (fun q:Rat=>D.v (.bool (cn q).s)) e53
     |exact congrArg (fun q:Rat=>D.v (.bool (cn q).s)) e53.symm
     |exact congrArg (fun q:Rat=>D.v (.string (cn q).a)) e53
     |exact congrArg (fun q:Rat=>D.v (.string (cn q).a)) e53.symm
     |exact congrArg (fun q:Rat=>D.v (.string (cn q).d)) e53
     |exact congrArg (fun q:Rat=>D.v (.string (cn q).d)) e53.symm
     |exact ωb
     |exact ωa
theorem Zrq {C:List (List Rat)} (hC:chZ C) (hn:0< C.length) {x y:Rat} (hx:qs x≤200000) (hy:qs y≤200000) (hc0:ctN C x y≠0) (hc1:ctN C x y≠1) (hmid:evP (c0C C) (mdQ x y)=0) {J:Nat} (hnr:NrOk C (mdQ x y) (y - mdQ x y) J) {L1 L2:List (Rat×Rat)} (hl:L1.length+L2.length≤500) (H1:SpecR Tryz.prog Tab 51 [.val (.one (.d (.list (List.map chD C)))),.val (.one (.d (.v (.slice none 0 0)))),pair (cn x) (cn (mdQ x y - byQ (y - mdQ x y) J))] 40 6 (List.map spD L1)) (H2:SpecT Tryz.prog Tab 51 [.val (.one (.d (.list (List.map chD C)))),.val (.one (.row 1000 0)),pair (cn (mdQ x y+byQ (y - mdQ x y) J)) (cn y)] 40 6 (List.map spD (L1++ [(mdQ x y,mdQ x y)])) 40 6 (List.map spD ((L1++ [(mdQ x y,mdQ x y)])++L2))):SpecR Tryz.prog Tab 51 [.val (.one (.d (.list (List.map chD C)))),.val (.one (.d (.v (.slice none 0 0)))),pair (cn x) (cn y)] 40 6 (List.map spD ((L1++ [(mdQ x y,mdQ x y)])++L2)):=by
 obtain⟨m,hm⟩:∃ m,m=mdQ x y:=⟨_,rfl⟩
 rw [← hm] at hmid hnr H1 H2
 obtain⟨d,hd⟩:∃ d,d=y - m:=⟨_,rfl⟩
 rw [← hd] at hnr H1 H2
 try rw [← hm]
 have hLZ:(List.map spD L1).length=L1.length:=by simp
 have hL1:(List.map spD L1).length=L1.length:=List.length_map ..
 refine Zdz [86,98] Tryz.func51 rfl rfl Tryz.ntmps51 rfl ωr rfl rfl ?_
 refine ZaA (n:=ctN C x y) hC ω ω hn rfl ?_
 refine⟨fun e1=> ?_,fun e1=> ?_⟩
 ·have f14:ctN C x y=0:=ZL e1
  exfalso
  exact hc0 f14
 ·have f14:¬ (ctN C x y=0):=ZM e1
  refine⟨fun e2=> ?_,fun e2=> ?_⟩
  ·have f18:ctN C x y=1:=ZL e2
   exfalso
   exact hc1 f18
  ·have f18:¬ (ctN C x y=1):=ZM e2
   refine Zbx ω ω hm.symm fun zm=> ?_
   refine Zac hC ω hn ?_
   rw [decide_eq_true hmid]
   refine⟨fun e=>absurd e ωd,fun _=> ?_⟩
   refine Zb6 (x:=cn y) (y:=cn m) ωz ωz fun q47 h47 z47=> ?_
   simp only [cn_z] at z47
   simp only [cn_q] at h47
   have e47:q47=byQ d 0:=h47.trans hd.symm
   refine⟨Nat,fun j=> [(0,.val (.one (.d (.list (List.map chD C))))),(1,.val (.one (.d (.v (.slice none 0 0))))),(5,.val (.one (.ptr 5 0))),(8,.val (.one (.ptr 8 0))),(9,.val (.one (.ptr 9 0)))],
    fun j=> [(5,.var 40 [.d (.v (.bool (cn x).s)),.d (.v (.string (cn x).a)),.d (.v (.string (cn x).d)),.d (.v (.bool (cn y).s)),.d (.v (.string (cn y).a)),.d (.v (.string (cn y).d))]),(8,.var 25 [.d (.v (.bool (cn m).s)),.d (.v (.string (cn m).a)),.d (.v (.string (cn m).d))]),(9,.var 25 [.d (.v (.bool (cn (byQ d j)).s)),.d (.v (.string (cn (byQ d j)).a)),.d (.v (.string (cn (byQ d j)).d))])],fun j=>j< J,fun j=>J - j,0,?_,by have:=hnr.pos;omega,fun j hs=> ?_⟩
   ·constructor<;>(repeat' (first|exact rfl|exact True.intro|exact⟨_,_,rfl⟩|exact ωd|apply And.intro))
    all_goals first
     |exact congrArg (fun q:Rat=>D.v (.bool (cn q).s)) e47
     |exact congrArg (fun q:Rat=>D.v (.bool (cn q).s)) e47.symm
     |exact congrArg (fun q:Rat=>D.v (.string (cn q).a)) e47
     |exact congrArg (fun q:Rat=>D.v (.string (cn q).a)) e47.symm
     |exact congrArg (fun q:Rat=>D.v (.string (cn q).d)) e47
     |exact congrArg (fun q:Rat=>D.v (.string (cn q).d)) e47.symm
     |(simp;done)
   have hzj:=hnr.z j ω
   have hzj1:=hnr.z (j+1) ω
   refine k_of (0) ω ω fun q49 h49 z49=> ?_
   simp only [cn_z] at z49
   refine k_of (1) ω ω fun q50 h50 z50=> ?_
   simp only [cn_z] at z50
   refine Zbx (x:=q49) (y:=q50) (m:=mdQ ((0:Int):Rat) ((1:Int):Rat)) ω ω (by rw [h49,h50]) fun zh=> ?_
   refine Za8 (x:=cn (byQ d j)) (y:=cn (mdQ ((0:Int):Rat) ((1:Int):Rat))) ωz ωz fun q53 h53 z53=> ?_
   simp only [cn_z] at z53
   simp only [cn_q] at h53
   have e53:q53=byQ d (j+1):=h53
   refine⟨ωr,?_⟩
   refine Zb6 (x:=cn m) (y:=cn q53) ωz ωz fun q56 h56 z56=> ?_
   simp only [cn_z] at z56
   simp only [cn_q] at h56
   refine Za9 (x:=cn m) (y:=cn q53) ωz ωz fun q59 h59 z59=> ?_
   simp only [cn_z] at z59
   simp only [cn_q] at h59
   refine⟨ωr,?_⟩
   refine ZaA (n:=ctN C q56 q59) hC ω ω hn rfl ?_
   refine fork (fun e3=> ?_) (fun e3=> ?_)
   ·have f65:ctN C q56 q59=1:=ZL e3
    refine Zac (x:=q56) hC ω hn ?_
    refine fork (fun e4=> ?_) (fun e4=> ?_)
    ·have f72:¬ (evP (c0C C) q56=0):=of_decide_eq_false (Zhd e4)
     refine Zac (x:=q59) hC ω hn ?_
     refine⟨fun e5=> ?_,fun e5=> ?_⟩
     ·have f78:¬ (evP (c0C C) q59=0):=of_decide_eq_false (Zhd e5)
      have eJ:J=j+1:=by
       rcases Nat.lt_or_ge (j+1) J with h|h
       ·exfalso;refine hnr.no (j+1) ω h ?_;rw [← e53];exact⟨by rw [← h56,← h59];exact f65,by rw [← h56];exact f72,by rw [← h59];exact f78⟩
       ·omega
      rw [eJ,← e53,← h56] at H1
      rw [eJ,← e53,← h59] at H2
      rw [show List.map spD (L1++ [(m,m)])=List.map spD L1++ [spD (m,m)] from by rw [List.map_append];rfl] at H2
      refine useN H1 ?_
      refine Zqn (x:=m) ω ?_
      refine⟨⟨row1 rfl,(by show ((List.map spD L1).length+1)*80≤_;omega),(by show ((List.map spD L1).length+1)≤_;omega)⟩,?_⟩
      refine⟨ωr,?_⟩
      refine⟨_,_,_,H2,?_⟩
      exact rfl
     ·have f78:¬ (¬ (evP (c0C C) q59=0)):=fun hh=>hh (of_decide_eq_true (Zhe e5))
      refine⟨j+1,by
       rcases Nat.lt_or_ge (j+1) J with h|h
       ·exact h
       ·obtain rfl:J=j+1:=ω
        exfalso;obtain⟨n1,n2,n3⟩:=hnr.yes;rw [← e53] at n1 n2 n3;rw [← h56,← h59] at n1;rw [← h56] at n2;rw [← h59] at n3;exact f78 n3,by simp only;omega,?_⟩
      constructor<;>(repeat' (first|exact rfl|exact True.intro|apply And.intro))
      all_goals first
       |exact congrArg (fun q:Rat=>D.v (.bool (cn q).s)) e53
       |exact congrArg (fun q:Rat=>D.v (.bool (cn q).s)) e53.symm
       |exact congrArg (fun q:Rat=>D.v (.string (cn q).a)) e53
       |exact congrArg (fun q:Rat=>D.v (.string (cn q).a)) e53.symm
       |exact congrArg (fun q:Rat=>D.v (.string (cn q).d)) e53
       |exact congrArg (fun q:Rat=>D.v (.string (cn q).d)) e53.symm
       |exact ωb
       |exact ωa
    ·have f72:¬ (¬ (evP (c0C C) q56=0)):=fun hh=>hh (of_decide_eq_true (Zhe e4))
     refine⟨fun e=>absurd e ωd,fun _=> ?_⟩
     refine⟨j+1,by
      rcases Nat.lt_or_ge (j+1) J with h|h
      ·exact h
      ·obtain rfl:J=j+1:=ω
       exfalso;obtain⟨n1,n2,n3⟩:=hnr.yes;rw [← e53] at n1 n2 n3;rw [← h56,← h59] at n1;rw [← h56] at n2;rw [← h59] at n3;exact f72 n2,by simp only;omega,?_⟩
     constructor<;>(repeat' (first|exact rfl|exact True.intro|apply And.intro))
     all_goals first
      |exact congrArg (fun q:Rat=>D.v (.bool (cn q).s)) e53
      |exact congrArg (fun q:Rat=>D.v (.bool (cn q).s)) e53.symm
      |exact congrArg (fun q:Rat=>D.v (.string (cn q).a)) e53
      |exact congrArg (fun q:Rat=>D.v (.string (cn q).a)) e53.symm
      |exact congrArg (fun q:Rat=>D.v (.string (cn q).d)) e53
      |exact congrArg (fun q:Rat=>D.v (.string (cn q).d)) e53.symm
      |exact ωb
      |exact ωa
   ·have f65:¬ (ctN C q56 q59=1):=ZM e3
    refine⟨fun e=>absurd e ωd,fun _=> ?_⟩
    refine⟨j+1,by
     rcases Nat.lt_or_ge (j+1) J with h|h
     ·exact h
     ·obtain rfl:J=j+1:=ω
      exfalso;obtain⟨n1,n2,n3⟩:=hnr.yes;rw [← e53] at n1 n2 n3;rw [← h56,← h59] at n1;rw [← h56] at n2;rw [← h59] at n3;exact f65 n1,by simp only;omega,?_⟩
    constructor<;>(repeat' (first|exact rfl|exact True.intro|apply And.intro))
    all_goals first
     |exact congrArg (fun q:Rat=>D.v (.bool (cn q).s)) e53
     |exact congrArg (fun q:Rat=>D.v (.bool (cn q).s)) e53.symm
     |exact congrArg (fun q:Rat=>D.v (.string (cn q).a)) e53
     |exact congrArg (fun q:Rat=>D.v (.string (cn q).a)) e53.symm
     |exact congrArg (fun q:Rat=>D.v (.string (cn q).d)) e53
     |exact congrArg (fun q:Rat=>D.v (.string (cn q).d)) e53.symm
     |exact ωb
     |exact ωa
theorem Zrp {C:List (List Rat)} (hC:chZ C) (hn:0< C.length) {x y:Rat} (hx:qs x≤200000) (hy:qs y≤200000) (hc0:ctN C x y≠0) (hc1:ctN C x y≠1) (hmid:evP (c0C C) (mdQ x y)=0) {J:Nat} (hnr:NrOk C (mdQ x y) (y - mdQ x y) J) (Z:List (Rat×Rat)) (hZ:Z.length≤1048000) {L1 L2:List (Rat×Rat)} (hl:L1.length+L2.length≤500) (H1:SpecT Tryz.prog Tab 51 [.val (.one (.d (.list (List.map chD C)))),.val (.one (.row 1000 0)),pair (cn x) (cn (mdQ x y - byQ (y - mdQ x y) J))] 40 6 (List.map spD Z) 40 6 (List.map spD (Z++L1))) (H2:SpecT Tryz.prog Tab 51 [.val (.one (.d (.list (List.map chD C)))),.val (.one (.row 1000 0)),pair (cn (mdQ x y+byQ (y - mdQ x y) J)) (cn y)] 40 6 (List.map spD ((Z++L1)++ [(mdQ x y,mdQ x y)])) 40 6 (List.map spD (((Z++L1)++ [(mdQ x y,mdQ x y)])++L2))):SpecT Tryz.prog Tab 51 [.val (.one (.d (.list (List.map chD C)))),.val (.one (.row 1000 0)),pair (cn x) (cn y)] 40 6 (List.map spD Z) 40 6 (List.map spD (((Z++L1)++ [(mdQ x y,mdQ x y)])++L2)):=by
 obtain⟨m,hm⟩:∃ m,m=mdQ x y:=⟨_,rfl⟩
 rw [← hm] at hmid hnr H1 H2
 obtain⟨d,hd⟩:∃ d,d=y - m:=⟨_,rfl⟩
 rw [← hd] at hnr H1 H2
 try rw [← hm]
 have hLZ:(List.map spD (Z++L1)).length=Z.length+L1.length:=by simp
 have hL1:(List.map spD L1).length=L1.length:=List.length_map ..
 refine fn_T [86,98] Tryz.func51 rfl rfl Tryz.ntmps51 rfl ωr rfl rfl ?_
 refine ZaA (n:=ctN C x y) hC ω ω hn rfl ?_
 refine⟨fun e1=> ?_,fun e1=> ?_⟩
 ·have f14:ctN C x y=0:=ZL e1
  exfalso
  exact hc0 f14
 ·have f14:¬ (ctN C x y=0):=ZM e1
  refine⟨fun e2=> ?_,fun e2=> ?_⟩
  ·have f18:ctN C x y=1:=ZL e2
   exfalso
   exact hc1 f18
  ·have f18:¬ (ctN C x y=1):=ZM e2
   refine Zbx ω ω hm.symm fun zm=> ?_
   refine Zac hC ω hn ?_
   rw [decide_eq_true hmid]
   refine⟨fun e=>absurd e ωd,fun _=> ?_⟩
   refine Zb6 (x:=cn y) (y:=cn m) ωz ωz fun q47 h47 z47=> ?_
   simp only [cn_z] at z47
   simp only [cn_q] at h47
   have e47:q47=byQ d 0:=h47.trans hd.symm
   refine⟨Nat,fun j=> [(0,.val (.one (.d (.list (List.map chD C))))),(1,.val (.one (.row 1000 0))),(5,.val (.one (.ptr 5 0))),(8,.val (.one (.ptr 8 0))),(9,.val (.one (.ptr 9 0)))],
    fun j=> [(5,.var 40 [.d (.v (.bool (cn x).s)),.d (.v (.string (cn x).a)),.d (.v (.string (cn x).d)),.d (.v (.bool (cn y).s)),.d (.v (.string (cn y).a)),.d (.v (.string (cn y).d))]),(8,.var 25 [.d (.v (.bool (cn m).s)),.d (.v (.string (cn m).a)),.d (.v (.string (cn m).d))]),(9,.var 25 [.d (.v (.bool (cn (byQ d j)).s)),.d (.v (.string (cn (byQ d j)).a)),.d (.v (.string (cn (byQ d j)).d))]),(1000,.row 40 6 0 (List.map spD Z) true)],fun j=>j< J,fun j=>J - j,0,?_,by have:=hnr.pos;omega,fun j hs=> ?_⟩
   ·constructor<;>(repeat' (first|exact rfl|exact True.intro|exact⟨_,_,rfl⟩|exact ωd|apply And.intro))
    all_goals first
     |exact congrArg (fun q:Rat=>D.v (.bool (cn q).s)) e47
     |exact congrArg (fun q:Rat=>D.v (.bool (cn q).s)) e47.symm
     |exact congrArg (fun q:Rat=>D.v (.string (cn q).a)) e47
     |exact congrArg (fun q:Rat=>D.v (.string (cn q).a)) e47.symm
     |exact congrArg (fun q:Rat=>D.v (.string (cn q).d)) e47
     |exact congrArg (fun q:Rat=>D.v (.string (cn q).d)) e47.symm
     |(simp;done)
   have hzj:=hnr.z j ω
   have hzj1:=hnr.z (j+1) ω
   refine k_of (0) ω ω fun q49 h49 z49=> ?_
   simp only [cn_z] at z49
   refine k_of (1) ω ω fun q50 h50 z50=> ?_
   simp only [cn_z] at z50
   refine Zbx (x:=q49) (y:=q50) (m:=mdQ ((0:Int):Rat) ((1:Int):Rat)) ω ω (by rw [h49,h50]) fun zh=> ?_
   refine Za8 (x:=cn (byQ d j)) (y:=cn (mdQ ((0:Int):Rat) ((1:Int):Rat))) ωz ωz fun q53 h53 z53=> ?_
   simp only [cn_z] at z53
   simp only [cn_q] at h53
   have e53:q53=byQ d (j+1):=h53
   refine⟨ωr,?_⟩
   refine Zb6 (x:=cn m) (y:=cn q53) ωz ωz fun q56 h56 z56=> ?_
   simp only [cn_z] at z56
   simp only [cn_q] at h56
   refine Za9 (x:=cn m) (y:=cn q53) ωz ωz fun q59 h59 z59=> ?_
   simp only [cn_z] at z59
   simp only [cn_q] at h59
   refine⟨ωr,?_⟩
   refine ZaA (n:=ctN C q56 q59) hC ω ω hn rfl ?_
   refine fork (fun e3=> ?_) (fun e3=> ?_)
   ·have f65:ctN C q56 q59=1:=ZL e3
    refine Zac (x:=q56) hC ω hn ?_
    refine fork (fun e4=> ?_) (fun e4=> ?_)
    ·have f72:¬ (evP (c0C C) q56=0):=of_decide_eq_false (Zhd e4)
     refine Zac (x:=q59) hC ω hn ?_
     refine⟨fun e5=> ?_,fun e5=> ?_⟩
     ·have f78:¬ (evP (c0C C) q59=0):=of_decide_eq_false (Zhd e5)
      have eJ:J=j+1:=by
       rcases Nat.lt_or_ge (j+1) J with h|h
       ·exfalso;refine hnr.no (j+1) ω h ?_;rw [← e53];exact⟨by rw [← h56,← h59];exact f65,by rw [← h56];exact f72,by rw [← h59];exact f78⟩
       ·omega
      rw [eJ,← e53,← h56] at H1
      rw [eJ,← e53,← h59] at H2
      rw [show List.map spD ((Z++L1)++ [(m,m)])=List.map spD (Z++L1)++ [spD (m,m)] from by rw [List.map_append];rfl] at H2
      refine⟨_,_,_,H1,?_⟩
      refine Zqn (x:=m) ω ?_
      refine⟨⟨row1 rfl,(by show ((List.map spD (Z++L1)).length+1)*80≤_;omega),(by show ((List.map spD (Z++L1)).length+1)≤_;omega)⟩,?_⟩
      refine⟨ωr,?_⟩
      refine⟨_,_,_,H2,?_⟩
      exact rfl
     ·have f78:¬ (¬ (evP (c0C C) q59=0)):=fun hh=>hh (of_decide_eq_true (Zhe e5))
      refine⟨j+1,by
       rcases Nat.lt_or_ge (j+1) J with h|h
       ·exact h
       ·obtain rfl:J=j+1:=ω
        exfalso;obtain⟨n1,n2,n3⟩:=hnr.yes;rw [← e53] at n1 n2 n3;rw [← h56,← h59] at n1;rw [← h56] at n2;rw [← h59] at n3;exact f78 n3,by simp only;omega,?_⟩
      constructor<;>(repeat' (first|exact rfl|exact True.intro|apply And.intro))
      all_goals first
       |exact congrArg (fun q:Rat=>D.v (.bool (cn q).s)) e53
       |exact congrArg (fun q:Rat=>D.v (.bool (cn q).s)) e53.symm
       |exact congrArg (fun q:Rat=>D.v (.string (cn q).a)) e53
       |exact congrArg (fun q:Rat=>D.v (.string (cn q).a)) e53.symm
       |exact congrArg (fun q:Rat=>D.v (.string (cn q).d)) e53
       |exact congrArg (fun q:Rat=>D.v (.string (cn q).d)) e53.symm
       |exact ωb
       |exact ωa
    ·have f72:¬ (¬ (evP (c0C C) q56=0)):=fun hh=>hh (of_decide_eq_true (Zhe e4))
     refine⟨fun e=>absurd e ωd,fun _=> ?_⟩
     refine⟨j+1,by
      rcases Nat.lt_or_ge (j+1) J with h|h
      ·exact h
      ·obtain rfl:J=j+1:=ω
       exfalso;obtain⟨n1,n2,n3⟩:=hnr.yes;rw [← e53] at n1 n2 n3;rw [← h56,← h59] at n1;rw [← h56] at n2;rw [← h59] at n3;exact f72 n2,by simp only;omega,?_⟩
     constructor<;>(repeat' (first|exact rfl|exact True.intro|apply And.intro))
     all_goals first
      |exact congrArg (fun q:Rat=>D.v (.bool (cn q).s)) e53
      |exact congrArg (fun q:Rat=>D.v (.bool (cn q).s)) e53.symm
      |exact congrArg (fun q:Rat=>D.v (.string (cn q).a)) e53
      |exact congrArg (fun q:Rat=>D.v (.string (cn q).a)) e53.symm
      |exact congrArg (fun q:Rat=>D.v (.string (cn q).d)) e53
      |exact congrArg (fun q:Rat=>D.v (.string (cn q).d)) e53.symm
      |exact ωb
      |exact ωa
   ·have f65:¬ (ctN C q56 q59=1):=ZM e3
    refine⟨fun e=>absurd e ωd,fun _=> ?_⟩
    refine⟨j+1,by
     rcases Nat.lt_or_ge (j+1) J with h|h
     ·exact h
     ·obtain rfl:J=j+1:=ω
      exfalso;obtain⟨n1,n2,n3⟩:=hnr.yes;rw [← e53] at n1 n2 n3;rw [← h56,← h59] at n1;rw [← h56] at n2;rw [← h59] at n3;exact f65 n1,by simp only;omega,?_⟩
    constructor<;>(repeat' (first|exact rfl|exact True.intro|apply And.intro))
    all_goals first
     |exact congrArg (fun q:Rat=>D.v (.bool (cn q).s)) e53
     |exact congrArg (fun q:Rat=>D.v (.bool (cn q).s)) e53.symm
     |exact congrArg (fun q:Rat=>D.v (.string (cn q).a)) e53
     |exact congrArg (fun q:Rat=>D.v (.string (cn q).a)) e53.symm
     |exact congrArg (fun q:Rat=>D.v (.string (cn q).d)) e53
     |exact congrArg (fun q:Rat=>D.v (.string (cn q).d)) e53.symm
     |exact ωb
     |exact ωa
theorem Zkj {C:List (List Rat)} (hC:chZ C) (hn:0< C.length) {x y:Rat} {L:List (Rat×Rat)} (h:Spl C x y L):L.length≤500→
  (L= []→Spec Tryz.prog Tab 51 [.val (.one (.d (.list (List.map chD C)))),.val (.one (.d (.v (.slice none 0 0)))),pair (cn x) (cn y)] (.val (.one (.d (.v (.slice none 0 0))))))∧(L≠ []→SpecR Tryz.prog Tab 51 [.val (.one (.d (.list (List.map chD C)))),.val (.one (.d (.v (.slice none 0 0)))),pair (cn x) (cn y)] 40 6 (List.map spD L))∧∀ Z:List (Rat×Rat),Z.length+L.length≤1000→SpecT Tryz.prog Tab 51 [.val (.one (.d (.list (List.map chD C)))),.val (.one (.row 1000 0)),pair (cn x) (cn y)] 40 6 (List.map spD Z) 40 6 (List.map spD (Z++L)):=by
 induction h with
 |none h1 h2 h3=>exact fun _=>⟨fun _=>ZmV hC hn h1 h2 h3,fun g=>absurd rfl g,fun Z hz=>Zru hC hn h1 h2 h3 Z ω⟩
 |one h1 h2 h3=>exact fun _=>⟨fun g=>by simp at g,fun _=>Zrt hC hn h1 h2 h3,fun Z hz=>Zrs hC hn h1 h2 h3 Z ω⟩
 |@two x y L1 L2 h1 h2 h3 h4 h5 _ _ i1 i2=>
  intro hl
  rw [List.length_append] at hl
  obtain⟨a1,a2,a3⟩:=i1 ω
  obtain⟨b1,b2,b3⟩:=i2 ω
  refine⟨fun g=> ?_,fun g=> ?_,fun Z hz=> ?_⟩
  ·obtain⟨g1,g2⟩:=List.append_eq_nil_iff.1 g
   exact ZmU hC hn h1 h2 h3 h4 h5 hl (a1 g1) (b1 g2)
  ·by_cases e:L1= []
   ·have e2:L2≠ []:=fun e2=>g (by rw [e,e2];rfl)
    have:=ZpF hC hn h1 h2 h3 h4 h5 hl (a1 e) (b2 e2)
    rw [e];exact this
   ·exact ZpH hC hn h1 h2 h3 h4 h5 hl (a2 e) (b3 L1 ω)
  ·rw [List.length_append] at hz
   have:=ZpG hC hn h1 h2 h3 h4 h5 Z ω hl (a3 Z ω) (b3 (Z++L1) (by rw [List.length_append];omega))
   rw [← List.append_assoc];exact this
 |@mid x y L1 L2 J h1 h2 h3 h4 h5 h6 _ _ i1 i2=>
  intro hl
  rw [List.length_append,List.length_cons] at hl
  obtain⟨a1,a2,a3⟩:=i1 ω
  obtain⟨b1,b2,b3⟩:=i2 ω
  refine⟨fun g=>by simp at g,fun g=> ?_,fun Z hz=> ?_⟩
  ·by_cases e:L1= []
   ·have:=Zro hC hn h1 h2 h3 h4 h5 h6 (L1:=L1) ω (a1 e) (b3 [(mdQ x y,mdQ x y)] (by simp only [List.length_cons,List.length_nil];omega))
    rw [e];exact this
   ·have:=Zrq hC hn h1 h2 h3 h4 h5 h6 ω (a2 e) (b3 (L1++ [(mdQ x y,mdQ x y)]) (by simp only [List.length_append,List.length_cons,List.length_nil];omega))
    rw [show L1++(mdQ x y,mdQ x y) :: L2=(L1++ [(mdQ x y,mdQ x y)])++L2 from by simp];exact this
  ·rw [List.length_append,List.length_cons] at hz
   have:=Zrp hC hn h1 h2 h3 h4 h5 h6 Z ω ω (a3 Z ω) (b3 ((Z++L1)++ [(mdQ x y,mdQ x y)]) (by simp only [List.length_append,List.length_cons,List.length_nil];omega))
   rw [show Z++(L1++(mdQ x y,mdQ x y) :: L2)=((Z++L1)++ [(mdQ x y,mdQ x y)])++L2 from by simp];exact this
end
section
variable {K : AV → Prop}
def hvR (C:List (List Rat)) (s:Rat×Rat):Rat×Rat:=if evP (c0C C) (mdQ s.1 s.2)=0 then (mdQ s.1 s.2,mdQ s.1 s.2) else if ctN C s.1 (mdQ s.1 s.2)=1 then (s.1,mdQ s.1 s.2) else (mdQ s.1 s.2,s.2)
theorem Zts (C:List (List Rat)) (x y:Rat):hvS C (cn x) (cn y)=(cn (hvR C (x,y)).1,cn (hvR C (x,y)).2):=by
 by_cases h:evP (c0C C) (mdQ x y)=0
 ·have e:=Zsw (C:=C) (x:=cn x) (y:=cn y) (by rw [cn_q,cn_q];exact h)
  rw [cn_q,cn_q] at e
  rw [e];unfold hvR;rw [if_pos h]
 ·by_cases g:ctN C x (mdQ x y)=1
  ·have e:=Zqv (C:=C) (x:=cn x) (y:=cn y) (by rw [cn_q,cn_q];exact h) (by rw [cn_q,cn_q];exact g)
   rw [cn_q,cn_q] at e
   rw [e];unfold hvR;rw [if_neg h,if_pos g]
  ·have e:=Zqu (C:=C) (x:=cn x) (y:=cn y) (by rw [cn_q,cn_q];exact h) (by rw [cn_q,cn_q];exact g)
   rw [cn_q,cn_q] at e
   rw [e];unfold hvR;rw [if_neg h,if_neg g]
theorem Zqp {C:List (List Rat)} {x y:Rat} (hC:chZ C) (hn:0< C.length) (hx:qs x≤400000) (hy:qs y≤400000) (k:K (pair (cn (hvR C (x,y)).1) (cn (hvR C (x,y)).2))):Ask 52 [.val (.one (.d (.list (List.map chD C)))),pair (cn x) (cn y)] K:=
 use (Zel C (cn x) (cn y) hC (by rw [cn_z];exact hx) (by rw [cn_z];exact hy) hn) rfl (by rw [Zts];exact k)
def stAt (R:List (Rat×Rat)) (i:Nat):Rat×Rat:=(R[i]?).getD (0,0)
def spStep (C:List (List Rat)) (R:List (Rat×Rat)) (i:Nat):List (Rat×Rat):=(R.set (i - 1) (hvR C (stAt R (i - 1)))).set i (hvR C (stAt R i))
theorem Zbm (C:List (List Rat)) (R:List (Rat×Rat)) (i:Nat):(spStep C R i).length=R.length:=by simp [spStep]
theorem Zap {R:List (Rat×Rat)} {i:Nat} {x:Rat×Rat} (h:R[i]? =some x):stAt R i=x:=by unfold stAt;rw [h];rfl
theorem Zd7 {C:List (List Rat)} {R:List (Rat×Rat)} {i:Nat} {a b:Rat×Rat} (ha:R[i - 1]? =some a) (hb:R[i]? =some b):List.map spD (spStep C R i)=((List.map spD R).set (i - 1) (spD (hvR C a))).set i (spD (hvR C b)):=by
 unfold spStep;rw [List.map_set,List.map_set,Zap ha,Zap hb]
inductive Sep (C:List (List Rat)):Nat→List (Rat×Rat)→Nat→List (Rat×Rat)→Prop where
 |done {R:List (Rat×Rat)} {i:Nat}:R.length≤i→Sep C 0 R i R
 |next {n:Nat} {R R':List (Rat×Rat)} {i:Nat}:i< R.length→(stAt R (i - 1)).2< (stAt R i).1→(qs (stAt R (i - 1)).2≤400000∧qs (stAt R i).1≤400000)→Sep C n R (i+1) R'→Sep C (n+1) R i R'
 |halve {n:Nat} {R R':List (Rat×Rat)} {i:Nat}:i< R.length→¬ (stAt R (i - 1)).2< (stAt R i).1→(qs (stAt R (i - 1)).1≤400000∧qs (stAt R (i - 1)).2≤400000)→(qs (stAt R i).1≤400000∧qs (stAt R i).2≤400000)→Sep C n (spStep C R i) i R'→Sep C (n+1) R i R'
theorem Sep.isdone {C:List (List Rat)} {n i:Nat} {R R':List (Rat×Rat)} (h:Sep C n R i R') (g:R.length≤i):R=R':=by
 cases h with
 |done _=>rfl
 |next h _ _ _=>omega
 |halve h _ _ _ _=>omega
theorem Sep.isnext {C:List (List Rat)} {n i:Nat} {R R':List (Rat×Rat)} (h:Sep C n R i R') (g:i< R.length) (a:(stAt R (i - 1)).2< (stAt R i).1):∃ n',n=n'+1∧Sep C n' R (i+1) R':=by
 cases h with
 |done h=>omega
 |next _ _ _ h=>exact⟨_,rfl,h⟩
 |halve _ b _ _ _=>exact absurd a b
theorem Sep.ishalve {C:List (List Rat)} {n i:Nat} {R R':List (Rat×Rat)} (h:Sep C n R i R') (g:i< R.length) (a:¬ (stAt R (i - 1)).2< (stAt R i).1):∃ n',n=n'+1∧((qs (stAt R (i - 1)).1≤400000∧qs (stAt R (i - 1)).2≤400000)∧qs (stAt R i).1≤400000∧qs (stAt R i).2≤400000)∧Sep C n' (spStep C R i) i R':=by
 cases h with
 |done h=>omega
 |next _ b _ _=>exact absurd b a
 |halve _ _ h1 h2 h=>exact⟨_,rfl,⟨h1,h2⟩,h⟩
theorem Sep.sizes {C:List (List Rat)} {n i:Nat} {R R':List (Rat×Rat)} (h:Sep C n R i R') (g:i< R.length):qs (stAt R (i - 1)).2≤400000∧qs (stAt R i).1≤400000:=by
 cases h with
 |done h=>omega
 |next _ _ z _=>exact z
 |halve _ _ h1 h2 _=>exact⟨h1.2,h2.1⟩
def msF (c:List Rat) (i:Nat):Rat:=(c.take i).foldl (fun s x=>s+absV x) ((1:Int):Rat)
theorem ZeV {c:List Rat} {i:Nat} {x:Rat} (h:c[i]? =some x):msF c (i+1)=msF c i+absV x:=by unfold msF;rw [List.take_add_one,h,List.foldl_append];rfl
theorem Zpj {C:List (List Rat)} (h:0< C.length):(List.map chD C)[0]? =some [D.list (List.map rdc (c0C C))]:=by
 unfold c0C;rw [List.getElem?_map,List.getElem?_eq_getElem h];rfl
theorem Zmx {C:List (List Rat)} (h:0< C.length):c0C C∈C:=by
 unfold c0C;rw [List.getElem?_eq_getElem h];exact List.getElem_mem _
theorem Znh {p:List Rat} {C:List (List Rat)} (h:RdyOk p C) {M:Rat} (hM:msF (c0C C) (c0C C).length=M) (hMz:∀ i,qs (msF (c0C C) i)≤100000) {L Rf:List (Rat×Rat)} (hS:SpecR Tryz.prog Tab 51 [.val (.one (.d (.list (List.map chD C)))),.val (.one (.d (.v (.slice none 0 0)))),pair (cn (-M)) (cn M)] 40 6 (List.map spD L)) (hl:L.length≤1000) {n:Nat} (hR:Sep C n L 1 Rf):Spec Tryz.prog Tab 14 [.val (.one (.d (.list (List.map rdc p))))] (.tup [.one (.d (.list (List.map spD Rf))),.one (.d (.v (.int .i64 (0))))]):=by
 have hLc:(List.map rdc (c0C C)).length=(c0C C).length:=List.length_map ..
 have hcz:=h.chz.2 (c0C C) (Zmx h.pos)
 refine ZcJ [38] Tryz.func14 rfl rfl Tryz.ntmps14 rfl ωr rfl rfl ?_
 refine use (ZeN h) rfl ?_
 refine⟨fun e=>absurd e ωd,fun _=> ?_⟩
 refine k_of (1) ω ω fun q19 h19 z19=> ?_
 simp only [cn_z] at z19
 refine k_ix 0 [D.list (List.map rdc (c0C C))] ωf (Zpj h.pos) rfl ?_
 have e19:q19=msF (c0C C) 0:=h19
 refine⟨Nat,fun i=> [(4,.val (.one (.d (.list (List.map chD C))))),(6,.val (.one (.ptr 6 0))),(22,.val (.one (.d (.list (List.map rdc (c0C C)))))),(23,int ((List.map rdc (c0C C)).length:Int)),(24,int (i:Int))],
  fun i=> [(6,.var 25 [.d (.v (.bool (cn (msF (c0C C) i)).s)),.d (.v (.string (cn (msF (c0C C) i)).a)),.d (.v (.string (cn (msF (c0C C) i)).d))])],fun i=>i≤(c0C C).length,fun i=>(c0C C).length - i,0,?_,Nat.zero_le _,fun i hs=> ?_⟩
 ·constructor<;>(repeat' (first|exact rfl|exact True.intro|exact⟨_,_,rfl⟩|exact ωd|apply And.intro))
  all_goals first
   |exact congrArg (fun q:Rat=>D.v (.bool (cn q).s)) e19
   |exact congrArg (fun q:Rat=>D.v (.bool (cn q).s)) e19.symm
   |exact congrArg (fun q:Rat=>D.v (.string (cn q).a)) e19
   |exact congrArg (fun q:Rat=>D.v (.string (cn q).a)) e19.symm
   |exact congrArg (fun q:Rat=>D.v (.string (cn q).d)) e19
   |exact congrArg (fun q:Rat=>D.v (.string (cn q).d)) e19.symm
   |exact ωa
   |(simp;done)
 have hmz:=hMz i
 refine⟨fun e1=> ?_,fun e1=> ?_⟩
 ·have f25:(i:Int)< ((List.map rdc (c0C C)).length:Int):=of_decide_eq_true e1
  refine get_ex (l:=(c0C C)) (i:=i) ωm fun x26 hx26=> ?_
  have hzx26:=hcz.2 x26 (List.mem_of_getElem? hx26)
  refine k_ix i [D.v (.bool (cn x26).s),D.v (.string (cn x26).a),D.v (.string (cn x26).d)] ωf (Zl hx26) rfl ?_
  refine Ziw (x:=cn x26) ωz fun q30 h30 z30=> ?_
  simp only [cn_z] at z30
  simp only [cn_q] at h30
  refine Za9 (x:=cn (msF (c0C C) i)) (y:=cn q30) ωz ωz fun q31 h31 z31=> ?_
  simp only [cn_z] at z31
  simp only [cn_q] at h31
  refine⟨ωr,?_⟩
  have e31:q31=msF (c0C C) (i+1):=by rw [h31,h30,ZeV hx26]
  refine⟨i+1,ω,by simp only;omega,?_⟩
  constructor<;>(repeat' (first|exact rfl|exact True.intro|apply And.intro))
  all_goals first
   |exact congrArg (fun q:Rat=>D.v (.bool (cn q).s)) e31
   |exact congrArg (fun q:Rat=>D.v (.bool (cn q).s)) e31.symm
   |exact congrArg (fun q:Rat=>D.v (.string (cn q).a)) e31
   |exact congrArg (fun q:Rat=>D.v (.string (cn q).a)) e31.symm
   |exact congrArg (fun q:Rat=>D.v (.string (cn q).d)) e31
   |exact congrArg (fun q:Rat=>D.v (.string (cn q).d)) e31.symm
   |exact ωb
   |exact ωa
 ·have f25:¬ ((i:Int)< ((List.map rdc (c0C C)).length:Int)):=of_decide_eq_false e1
  refine ZbG (x:=cn (msF (c0C C) i)) ωz fun q35 h35 z35=> ?_
  simp only [cn_z] at z35
  simp only [cn_q] at h35
  obtain rfl:i=(c0C C).length:=ω
  have e35:q35=-M:=by rw [h35,hM]
  rw [← e35,← hM] at hS
  refine useN hS ?_
  refine⟨ωr,?_⟩
  refine⟨Nat×Nat×List (Rat×Rat),fun (n,i,R)=> [(4,.val (.one (.d (.list (List.map chD C))))),(9,.val (.one (.row 38 0))),(10,int (i:Int))],
   fun (n,i,R)=> [(38,.row 40 6 0 (List.map spD R) true)],fun (n,i,R)=>Sep C n R i Rf∧1≤i∧R.length=L.length,fun (n,i,R)=>n,(n,1,L),?_,⟨hR,Nat.le_refl _,rfl⟩,fun s hs=> ?_⟩
  ·exact ωe
  obtain⟨n,i,R⟩:=s
  obtain⟨s1,s2,s3⟩:=hs
  have hLR:(List.map spD R).length=R.length:=List.length_map ..
  refine⟨fun e2=> ?_,fun e2=> ?_⟩
  ·have f42:(i:Int)< ((List.map spD R).length:Int):=of_decide_eq_true e2
   refine⟨Nat×List (Rat×Rat),fun (n1,R1)=> [(4,.val (.one (.d (.list (List.map chD C))))),(9,.val (.one (.row 38 0))),(10,int (i:Int))],
    fun (n1,R1)=> [(38,.row 40 6 0 (List.map spD R1) true)],fun (n1,R1)=>Sep C n1 R1 i Rf∧n1≤n∧i< R1.length∧R1.length=L.length,fun (n1,R1)=>n1,(n,R),?_,⟨s1,Nat.le_refl _,ω,s3⟩,fun s hs=> ?_⟩
   ·exact ωe
   obtain⟨n1,R1⟩:=s
   obtain⟨s4,s5,s6,s8⟩:=hs
   have hLR1:(List.map spD R1).length=R1.length:=List.length_map ..
   have hz1:=(s4.sizes s6).1
   have hz2:=(s4.sizes s6).2
   refine k_at_own' (i - 1) ωf (by first|omega|(simp;done)|decide) ?_
   refine get_ex (l:=R1) (i:=(i - 1)) ωm fun x50 hx50=> ?_
   refine ZS [D.v (.bool (cn x50.1).s),D.v (.string (cn x50.1).a),D.v (.string (cn x50.1).d),D.v (.bool (cn x50.2).s),D.v (.string (cn x50.2).a),D.v (.string (cn x50.2).d)] _ (Zl hx50) rfl rfl ?_
   refine k_at_own' i ωf (by first|omega|(simp;done)|decide) ?_
   refine get_ex (l:=R1) (i:=i) ωm fun x55 hx55=> ?_
   refine ZS [D.v (.bool (cn x55.1).s),D.v (.string (cn x55.1).a),D.v (.string (cn x55.1).d),D.v (.bool (cn x55.2).s),D.v (.string (cn x55.2).a),D.v (.string (cn x55.2).d)] _ (Zl hx55) rfl rfl ?_
   rw [Zap hx50] at hz1
   rw [Zap hx55] at hz2
   refine ZcO (x:=cn x50.2) (y:=cn x55.1) ωn ωn fun n56 h56=> ?_
   simp only [cn_q] at h56
   refine⟨ωr,?_⟩
   refine⟨fun e3=> ?_,fun e3=> ?_⟩
   ·have f57:x55.1≤x50.2:=(ZsP h56).1 (of_decide_eq_true e3)
    obtain⟨n2,hn2,⟨⟨za1,za2⟩,zb1,zb2⟩,s7⟩:=s4.ishalve s6 (by rw [Zap hx50,Zap hx55];exact fun g=>absurd g (Rat.not_lt.2 f57))
    rw [Zap hx50] at za1 za2
    rw [Zap hx55] at zb1 zb2
    refine k_at_own' (i - 1) ωf (by first|omega|(simp;done)|decide) ?_
    refine ZS [D.v (.bool (cn x50.1).s),D.v (.string (cn x50.1).a),D.v (.string (cn x50.1).d),D.v (.bool (cn x50.2).s),D.v (.string (cn x50.2).a),D.v (.string (cn x50.2).d)] _ (Zl hx50) rfl rfl ?_
    refine Zqp (x:=x50.1) (y:=x50.2) h.chz h.pos ω ω ?_
    refine k_at_own' i ωf (by first|omega|(simp;done)|decide) ?_
    refine ZS [D.v (.bool (cn x55.1).s),D.v (.string (cn x55.1).a),D.v (.string (cn x55.1).d),D.v (.bool (cn x55.2).s),D.v (.string (cn x55.2).a),D.v (.string (cn x55.2).d)] _ (Zl hx55) rfl rfl ?_
    refine Zqp (x:=x55.1) (y:=x55.2) h.chz h.pos ω ω ?_
    refine k_at_own' (i - 1) ωf (by first|omega|(simp;done)|decide) ?_
    refine⟨by first|omega|(simp only [List.length_set];omega)|(simp;omega),?_⟩
    refine k_at_own' i ωf (by rw [List.length_set];omega) ?_
    refine⟨by first|omega|(simp only [List.length_set];omega)|(simp;omega),?_⟩
    refine⟨ωr,?_⟩
    refine⟨(n2,spStep C R1 i),⟨s7,ω,by rw [Zbm];exact s6,by rw [Zbm];exact s8⟩,by show n2< n1;omega,?_⟩
    constructor<;>(repeat' (first|exact rfl|exact True.intro|apply And.intro))
    all_goals first
     |(rw [Zd7 hx50 hx55];rfl)
     |exact Zd7 hx50 hx55
     |exact ωb
     |exact ωa
   ·have f57:¬ (x55.1≤x50.2):=fun hh=>of_decide_eq_false e3 ((ZsP h56).2 hh)
    obtain⟨n2,hn2,s7⟩:=s4.isnext s6 (by rw [Zap hx50,Zap hx55];exact Rat.not_le.1 f57)
    refine⟨(n2,i+1,R1),⟨s7,ω,ω⟩,by show n2< n;omega,?_⟩
    constructor<;>(repeat' (first|exact rfl|exact True.intro|apply And.intro))
    all_goals first
     |exact ωb
     |exact ωa
  ·have f42:¬ ((i:Int)< ((List.map spD R).length:Int)):=of_decide_eq_false e2
   refine Eq.trans (b:= .tup [.one (.d (.list (List.map spD R))),.one (.d (.v (.int .i64 (0))))]) ?_ rfl
   rw [s1.isdone ω]
   all_goals exact rfl
theorem ZkC {p:List Rat} {C:List (List Rat)} (h:RdyOk p C) {M:Rat} (hM:msF (c0C C) (c0C C).length=M) (hMz:∀ i,qs (msF (c0C C) i)≤100000) (hS:Spec Tryz.prog Tab 51 [.val (.one (.d (.list (List.map chD C)))),.val (.one (.d (.v (.slice none 0 0)))),pair (cn (-M)) (cn M)] (.val (.one (.d (.v (.slice none 0 0)))))):Spec Tryz.prog Tab 14 [.val (.one (.d (.list (List.map rdc p))))] (.tup [.one (.d (.list (List.map spD ([]:List (Rat×Rat))))),.one (.d (.v (.int .i64 (0))))]):=by
 have hLc:(List.map rdc (c0C C)).length=(c0C C).length:=List.length_map ..
 have hcz:=h.chz.2 (c0C C) (Zmx h.pos)
 refine ZcJ [38] Tryz.func14 rfl rfl Tryz.ntmps14 rfl ωr rfl rfl ?_
 refine use (ZeN h) rfl ?_
 refine⟨fun e=>absurd e ωd,fun _=> ?_⟩
 refine k_of (1) ω ω fun q19 h19 z19=> ?_
 simp only [cn_z] at z19
 refine k_ix 0 [D.list (List.map rdc (c0C C))] ωf (Zpj h.pos) rfl ?_
 have e19:q19=msF (c0C C) 0:=h19
 refine⟨Nat,fun i=> [(4,.val (.one (.d (.list (List.map chD C))))),(6,.val (.one (.ptr 6 0))),(22,.val (.one (.d (.list (List.map rdc (c0C C)))))),(23,int ((List.map rdc (c0C C)).length:Int)),(24,int (i:Int))],
  fun i=> [(6,.var 25 [.d (.v (.bool (cn (msF (c0C C) i)).s)),.d (.v (.string (cn (msF (c0C C) i)).a)),.d (.v (.string (cn (msF (c0C C) i)).d))])],fun i=>i≤(c0C C).length,fun i=>(c0C C).length - i,0,?_,Nat.zero_le _,fun i hs=> ?_⟩
 ·constructor<;>(repeat' (first|exact rfl|exact True.intro|exact⟨_,_,rfl⟩|exact ωd|apply And.intro))
  all_goals first
   |exact congrArg (fun q:Rat=>D.v (.bool (cn q).s)) e19
   |exact congrArg (fun q:Rat=>D.v (.bool (cn q).s)) e19.symm
   |exact congrArg (fun q:Rat=>D.v (.string (cn q).a)) e19
   |exact congrArg (fun q:Rat=>D.v (.string (cn q).a)) e19.symm
   |exact congrArg (fun q:Rat=>D.v (.string (cn q).d)) e19
   |exact congrArg (fun q:Rat=>D.v (.string (cn q).d)) e19.symm
   |exact ωa
   |(simp;done)
 have hmz:=hMz i
 refine⟨fun e1=> ?_,fun e1=> ?_⟩
 ·have f25:(i:Int)< ((List.map rdc (c0C C)).length:Int):=of_decide_eq_true e1
  refine get_ex (l:=(c0C C)) (i:=i) ωm fun x26 hx26=> ?_
  have hzx26:=hcz.2 x26 (List.mem_of_getElem? hx26)
  refine k_ix i [D.v (.bool (cn x26).s),D.v (.string (cn x26).a),D.v (.string (cn x26).d)] ωf (Zl hx26) rfl ?_
  refine Ziw (x:=cn x26) ωz fun q30 h30 z30=> ?_
  simp only [cn_z] at z30
  simp only [cn_q] at h30
  refine Za9 (x:=cn (msF (c0C C) i)) (y:=cn q30) ωz ωz fun q31 h31 z31=> ?_
  simp only [cn_z] at z31
  simp only [cn_q] at h31
  refine⟨ωr,?_⟩
  have e31:q31=msF (c0C C) (i+1):=by rw [h31,h30,ZeV hx26]
  refine⟨i+1,ω,by simp only;omega,?_⟩
  constructor<;>(repeat' (first|exact rfl|exact True.intro|apply And.intro))
  all_goals first
   |exact congrArg (fun q:Rat=>D.v (.bool (cn q).s)) e31
   |exact congrArg (fun q:Rat=>D.v (.bool (cn q).s)) e31.symm
   |exact congrArg (fun q:Rat=>D.v (.string (cn q).a)) e31
   |exact congrArg (fun q:Rat=>D.v (.string (cn q).a)) e31.symm
   |exact congrArg (fun q:Rat=>D.v (.string (cn q).d)) e31
   |exact congrArg (fun q:Rat=>D.v (.string (cn q).d)) e31.symm
   |exact ωb
   |exact ωa
 ·have f25:¬ ((i:Int)< ((List.map rdc (c0C C)).length:Int)):=of_decide_eq_false e1
  refine ZbG (x:=cn (msF (c0C C) i)) ωz fun q35 h35 z35=> ?_
  simp only [cn_z] at z35
  simp only [cn_q] at h35
  obtain rfl:i=(c0C C).length:=ω
  have e35:q35=-M:=by rw [h35,hM]
  rw [← e35,← hM] at hS
  refine use hS rfl ?_
  refine⟨ωr,?_⟩
  refine⟨Nat,fun i=> [(4,.val (.one (.d (.list (List.map chD C))))),(9,.val (.one (.d (.v (.slice none 0 0))))),(10,int 1)],
   fun i=> [],fun i=>True,fun i=>0,0,?_,trivial,fun i hs=> ?_⟩
  ·exact ωe
  refine⟨fun e=>absurd e ωd,fun _=> ?_⟩
  refine Eq.trans (b:= .tup [.one (.d (.list ([]))),.one (.d (.v (.int .i64 (0))))]) ?_ rfl
  rfl
end
section
variable {K : AV → Prop}
theorem Zqo {x y:Rat} (hx:qs x≤400000) (hy:qs y≤400000) (hxy:x≤y) (k:K (pair (cn x) (cn y))):Ask 54 [pair (cn x) (cn y),pair (cn x) (cn y)] K:=
 Zdt (x:=cn x) (y:=cn y) (z:=cn x) (t:=cn y) ωn ωn ωn ωn fun p q hp hq _ _=>by
  rw [Zai hxy] at hp
  rw [Zaj hxy] at hq
  obtain rfl:p=x:=by rw [hp];unfold minQ;split<;>rfl
  obtain rfl:q=y:=by rw [hq];unfold maxQ;split<;>rfl
  exact k
def hvN (C:List (List Rat)) (s:Rat×Rat):Nat→Rat×Rat
 |0=>s
 |t+1=>hvR C (hvN C s t)
structure FnOk (C:List (List Rat)) (s:Rat×Rat) (w:Rat) (n:Nat):Prop where
 z:∀ t,t≤n→qs (hvN C s t).1≤400000∧qs (hvN C s t).2≤400000
 go:∀ t,t< n→w< (hvN C s t).2 - (hvN C s t).1
 stop:¬ w< (hvN C s n).2 - (hvN C s n).1
theorem Zqz {p:List Rat} {C:List (List Rat)} (h:RdyOk p C) {x y:Rat} (hx:qs x≤400000) (hy:qs y≤400000) (hxy:x≤y) {w:Rat} (hw:0< w) (hwz:qs w≤1048576) (hc:ctN C x y=1) {n:Nat} (hF:FnOk C (x,y) w n):Spec Tryz.prog Tab 17 [.val (.one (.d (.list (List.map rdc p)))),pair (cn x) (cn y),rat (cn w)] (.tup [.agg [.d (.v (.bool (cn (hvN C (x,y) n).1).s)),.d (.v (.string (cn (hvN C (x,y) n).1).a)),.d (.v (.string (cn (hvN C (x,y) n).1).d)),.d (.v (.bool (cn (hvN C (x,y) n).2).s)),.d (.v (.string (cn (hvN C (x,y) n).2).a)),.d (.v (.string (cn (hvN C (x,y) n).2).d))],.one (.d (.v (.int .i64 (0))))]):=by
 refine Zh Tryz.func17 rfl rfl Tryz.ntmps17 rfl ωr rfl rfl ?_
 refine use (ZeN h) rfl ?_
 refine⟨fun e=>absurd e ωd,fun _=> ?_⟩
 refine ZcH (x:=cn w) ωn fun n20 h20=> ?_
 simp only [cn_q] at h20
 refine⟨fun e1=> ?_,fun e1=> ?_⟩
 ·have f21:w≤0:=(Zh4 h20).1 (of_decide_eq_true e1)
  exfalso
  exact absurd hw (Rat.not_lt.2 f21)
 ·have f21:¬ (w≤0):=fun hh=>of_decide_eq_false e1 ((Zh4 h20).2 hh)
  refine Zqo hx hy hxy ?_
  refine ZaA (n:=1) h.chz ω ω h.pos hc ?_
  refine⟨fun e=>absurd e ωd,fun _=> ?_⟩
  refine⟨Nat,fun t=> [(4,.val (.one (.ptr 4 0))),(5,.val (.one (.ptr 5 0))),(6,.val (.one (.ptr 6 0))),(8,.val (.one (.d (.list (List.map chD C)))))],
   fun t=> [(4,.var 40 [.d (.v (.bool (cn (hvN C (x,y) t).1).s)),.d (.v (.string (cn (hvN C (x,y) t).1).a)),.d (.v (.string (cn (hvN C (x,y) t).1).d)),.d (.v (.bool (cn (hvN C (x,y) t).2).s)),.d (.v (.string (cn (hvN C (x,y) t).2).a)),.d (.v (.string (cn (hvN C (x,y) t).2).d))]),(5,.var 25 [.d (.v (.bool (cn w).s)),.d (.v (.string (cn w).a)),.d (.v (.string (cn w).d))]),(6,.var 40 [.d (.v (.bool z0.s)),.d (.v (.string z0.a)),.d (.v (.string z0.d)),.d (.v (.bool z0.s)),.d (.v (.string z0.a)),.d (.v (.string z0.d))])],fun t=>t≤n,fun t=>n - t,0,?_,Nat.zero_le _,fun t hs=> ?_⟩
  ·exact ωe
  have hz1:=(hF.z t hs).1
  have hz2:=(hF.z t hs).2
  refine Zb6 (x:=cn (hvN C (x,y) t).2) (y:=cn (hvN C (x,y) t).1) ωz ωz fun q35 h35 z35=> ?_
  simp only [cn_z] at z35
  simp only [cn_q] at h35
  refine ZcO (x:=cn q35) (y:=cn w) ωz ωz fun n37 h37=> ?_
  simp only [cn_q] at h37
  refine⟨ωr,?_⟩
  refine⟨fun e2=> ?_,fun e2=> ?_⟩
  ·have f38:w< q35:=(ZsO h37).1 (of_decide_eq_true e2)
   refine Zqp (x:=(hvN C (x,y) t).1) (y:=(hvN C (x,y) t).2) h.chz h.pos ω ω ?_
   have htn:t< n:=by
    rcases Nat.lt_or_ge t n with g|g
    ·exact g
    ·obtain rfl:t=n:=Nat.le_antisymm hs g
     exact absurd f38 (by rw [h35];exact hF.stop)
   refine⟨t+1,ω,by simp only;omega,?_⟩
   constructor<;>(repeat' (first|exact rfl|exact True.intro|apply And.intro))
   all_goals first
    |exact ωb
    |exact ωa
  ·have f38:¬ (w< q35):=fun hh=>of_decide_eq_false e2 ((ZsO h37).2 hh)
   refine Eq.trans (b:= .tup [.agg [.d (.v (.bool (cn (hvN C (x,y) t).1).s)),.d (.v (.string (cn (hvN C (x,y) t).1).a)),.d (.v (.string (cn (hvN C (x,y) t).1).d)),.d (.v (.bool (cn (hvN C (x,y) t).2).s)),.d (.v (.string (cn (hvN C (x,y) t).2).a)),.d (.v (.string (cn (hvN C (x,y) t).2).d))],.one (.d (.v (.int .i64 (0))))]) ?_ rfl
   obtain rfl:t=n:=by
    rcases Nat.lt_or_ge t n with g|g
    ·exact absurd (by rw [h35];exact hF.go t g) f38
    ·omega
   rfl
end
