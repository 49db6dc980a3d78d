/- Joined by wip/bundle.py: XSingA XForcA XTrackA. -/
import Derived.Test.YtgmkgfdjolchdaaGreatDoorQForeA
import Derived.Test.YtgmkgfdjolchdaaGreatDoorQOpenA
set_option maxRecDepth 100000
namespace Go.Proofs.YtgmkgfdjolchdaaGreatDoor.eng
open Go.RowKit num mem seg q held ratA ratB ratC ratD ratE vars ratF trq
section
variable {K : AV → Prop}
end
section
variable {K : AV → Prop}
end
open argopen
section
variable {K : AV → Prop}
def itF (s:Rat) (a b:List RV) (i:Nat):Rat:=qAt a i+s*(qAt b i - qAt a i)
def itL (s:Rat) (a b:List RV) (n:Nat):List Rat:=(List.range n).map (itF s a b)
def qsL (l:List RV):List Rat:=l.map RV.q
def atR (x:Int×List RV):List (Int×List RV)→Int→List Rat
 | [],_=>qsL x.2
 |y :: r,n=>if n< y.1 then itL (((n:Rat) - (x.1:Rat)) / ((y.1:Rat) - (x.1:Rat))) x.2 y.2 (min x.2.length y.2.length) else atR y r n
def atL:List (Int×List RV)→Int→List Rat
 | [],_=> []
 |x :: r,n=>if n≤x.1 then qsL x.2 else atR x r n
theorem ZiT (s:Rat) (a b:List RV) (n:Nat):(itL s a b n).length=n:=by simp [itL]
theorem ZqK {α:Type} (g:Rat→α) (s:Rat) (a b:List RV) (i:Nat):List.map g (itL s a b (i+1))=List.map g (itL s a b i)++ [g (itF s a b i)]:=by simp [itL,List.range_succ]
theorem Zp4 {α:Type} (g:Rat→α) {l:List RV} {i:Nat} {x:RV} (h:l[i]? =some x):List.map g (qsL (l.take (i+1)))=List.map g (qsL (l.take i))++ [g x.q]:=by
 rw [List.take_add_one,h];simp [qsL]
theorem Zng (l:List RV):(qsL l).length=l.length:=List.length_map ..
theorem ZoE {α:Type} {l:List α} {i:Nat} {y:α} (h:l[i]? =some y):l.drop i=y :: l.drop (i+1):=by
 obtain⟨hi,rfl⟩:=List.getElem?_eq_some_iff.1 h
 exact List.drop_eq_getElem_cons hi
theorem ZqT {α:Type} {l:List α} {i:Nat} (h:l.length≤i):l.drop i= []:=List.drop_eq_nil_of_le h
theorem ZtF {a b:Int} (h:a< b):(b:Rat) - (a:Rat)≠0:=by
 intro e
 have:(b:Rat)=(a:Rat):=by grind
 have:=Rat.intCast_inj.1 this
 omega
theorem Zwk {t:List (Int×List RV)} {x:Int×List RV} {n:Int} (h:t[0]? =some x) (g:n≤x.1):atL t n=qsL x.2:=by
 cases t with
 |nil=>simp at h
 |cons a r=>obtain rfl:=Option.some.inj (show some a=some x from h);exact if_pos g
theorem Zwj {t:List (Int×List RV)} {x:Int×List RV} {n:Int} (h:t[0]? =some x) (g:¬ n≤x.1):atL t n=atR x (t.drop 1) n:=by
 cases t with
 |nil=>simp at h
 |cons a r=>obtain rfl:=Option.some.inj (show some a=some x from h);exact if_neg g
def atI (t:List (Int×List RV)) (n:Int) (i:Nat) (x:Int×List RV):Prop:=t[i]? =some x∧x.1≤n∧atL t n=atR x (t.drop (i+1)) n
theorem Zwm {t:List (Int×List RV)} {x:Int×List RV} {n:Int} (h:t[0]? =some x) (g:¬ n≤x.1):atI t n 0 x:=⟨h,ω,Zwj h g⟩
theorem Zwl {t:List (Int×List RV)} {x y:Int×List RV} {n:Int} {i:Nat} (h:atI t n i x) (hy:t[i+1]? =some y) (g:¬ n< y.1):atI t n (i+1) y:=by
 refine⟨hy,ω,?_⟩
 rw [h.2.2,ZoE hy]
 exact if_neg g
theorem ZvJ {t:List (Int×List RV)} {x y:Int×List RV} {n:Int} {i:Nat} (h:atI t n i x) (hy:t[i+1]? =some y) (g:n< y.1):atL t n=itL (((n:Rat) - (x.1:Rat)) / ((y.1:Rat) - (x.1:Rat))) x.2 y.2 (min x.2.length y.2.length):=by
 rw [h.2.2,ZoE hy]
 exact if_pos g
theorem ZtP {t:List (Int×List RV)} {x:Int×List RV} {n:Int} {i:Nat} (h:atI t n i x) (hi:t.length≤i+1):atL t n=qsL x.2:=by
 rw [h.2.2,ZqT hi];rfl
def tz (t:List (Int×List RV)):Prop:=t.length≤1048576∧∀ k,k∈t→(-9223372036854775808≤k.1∧k.1≤9223372036854775807)∧k.2.length≤1048576∧∀ x,x∈k.2→x.z≤1048577
theorem Zi2 (l:List RV) (hl:∀ x,x∈l→x.z≤1048577) (hn:l.length≤1048576):Spec Tryz.prog Tab 29 [.val (.one (.d (.list (List.map rd l))))] (.val (.one (.d (.list (List.map rdc (qsL l)))))):=by
 have hL:(List.map rd l).length=l.length:=List.length_map ..
 refine Za Tryz.func29 rfl rfl Tryz.ntmps29 rfl ωr rfl rfl ?_
 refine⟨Nat,fun i=> [(3,.val (.one (.row 17 0))),(6,.val (.one (.d (.list (List.map rd l))))),(7,int ((List.map rd l).length:Int)),(8,int (i:Int))],
  fun i=> [(17,.row 25 3 0 (List.map rdc (qsL (l.take i))) true)],fun i=>i≤l.length,fun i=>l.length - i,0,?_,Nat.zero_le _,fun i hs=> ?_⟩
 ·exact ωe
 have hT:(List.map rdc (qsL (l.take i))).length≤1048576:=by rw [List.length_map,Zng,List.length_take];omega
 refine⟨fun e1=> ?_,fun e1=> ?_⟩
 ·have f9:(i:Int)< ((List.map rd l).length:Int):=of_decide_eq_true e1
  refine get_ex (l:=l) (i:=i) ωm fun x10 hx10=> ?_
  have hzx10:=hl x10 (List.mem_of_getElem? hx10)
  refine k_ix i [D.v (.bool x10.s),D.v (.string x10.a),D.v (.string x10.d)] ωh (Ze hx10) rfl ?_
  refine k_of (0) ω ω fun q14 h14 z14=> ?_
  simp only [cn_z] at z14
  refine ZaJ (x:=x10) (y:=cn q14) ω ωz fun q15 h15 z15=> ?_
  simp only [cn_z] at z15
  simp only [cn_q] at h15
  refine⟨⟨row1 rfl,(by show ((List.map rdc (qsL (l.take i))).length+1)*40≤_;omega),(by show ((List.map rdc (qsL (l.take i))).length+1)≤_;omega)⟩,?_⟩
  refine⟨ωr,?_⟩
  have e15:q15=x10.q:=by rw [h15,h14,Rat.intCast_zero,Rat.add_zero]
  clear h15
  subst e15
  refine⟨i+1,ω,by simp only;omega,?_⟩
  constructor<;>(repeat' (first|exact rfl|exact True.intro|apply And.intro))
  all_goals first
   |(rw [Zp4 _ hx10];rfl)
   |exact ωb
   |exact ωa
 ·have f9:¬ ((i:Int)< ((List.map rd l).length:Int)):=of_decide_eq_false e1
  refine Eq.trans (b:= .val (.one (.d (.list (List.map rdc (qsL (l.take i))))))) ?_ rfl
  rw [List.take_of_length_le ω]
theorem Zki {l:List RV} (hl:∀ x,x∈l→x.z≤1048577) (hn:l.length≤1048576) (k:K (.val (.one (.d (.list (List.map rdc (qsL l))))))):Ask 29 [.val (.one (.d (.list (List.map rd l))))] K:=use (Zi2 l hl hn) rfl k
set_option maxHeartbeats 2000000 in
theorem Zrc (t:List (Int×List RV)) (n:Int) (ht:tz t) (hn:-9223372036854775808≤n∧n≤9223372036854775807):Spec Tryz.prog Tab 9 [.val (.one (.d (.list (List.map keyD t)))),int n] (.val (.one (.d (.list (List.map rdc (atL t n)))))):=by
 have hL:(List.map keyD t).length=t.length:=List.length_map ..
 have ht1:=ht.1
 refine Za Tryz.func9 rfl rfl Tryz.ntmps9 rfl ωr rfl rfl ?_
 refine⟨fun e1=> ?_,fun e1=> ?_⟩
 ·have f15:((List.map keyD t).length:Int)=0:=ZJ e1
  refine Eq.trans (b:= .val (.one (.d (.list ([]))))) ?_ rfl
  have:t= []:=List.eq_nil_of_length_eq_zero ω
  subst this
  rfl
 ·have f15:¬ (((List.map keyD t).length:Int)=0):=ZK e1
  refine get_ex (l:=t) (i:=0) ωm fun x18 hx18=> ?_
  have hzx18:=ht.2 x18 (List.mem_of_getElem? hx18)
  have hLax18:(List.map rd x18.2).length=x18.2.length:=List.length_map ..
  refine k_ix 0 [D.v (.int .i64 (x18.1)),D.list (List.map rd x18.2)] ωh (Ze hx18) rfl ?_
  refine⟨fun e2=> ?_,fun e2=> ?_⟩
  ·have f21:n≤x18.1:=of_decide_eq_true e2
   refine k_ix 0 [D.v (.int .i64 (x18.1)),D.list (List.map rd x18.2)] ωh (Ze hx18) rfl ?_
   refine Zki (l:=x18.2) hzx18.2.2 hzx18.2.1 ?_
   refine Eq.trans (b:= .val (.one (.d (.list (List.map rdc (qsL x18.2)))))) ?_ rfl
   rw [Zwk hx18 f21]
  ·have f21:¬ (n≤x18.1):=of_decide_eq_false e2
   refine⟨Nat×(Int×List RV),fun (i,x)=> [(0,.val (.one (.d (.list (List.map keyD t))))),(1,int n),(5,int (i:Int))],
    fun (i,x)=> [],fun (i,x)=>1≤i∧i≤t.length∧atI t n (i - 1) x,fun (i,x)=>t.length - i,(1,x18),?_,⟨Nat.le_refl _,ω,Zwm hx18 f21⟩,fun s hs=> ?_⟩
   ·exact ωe
   obtain⟨i,x⟩:=s
   obtain⟨h1,h2,h3⟩:=hs
   refine⟨fun e3=> ?_,fun e3=> ?_⟩
   ·have f30:(i:Int)< ((List.map keyD t).length:Int):=of_decide_eq_true e3
    refine get_ex (l:=t) (i:=i) ωm fun x35 hx35=> ?_
    have hzx35:=ht.2 x35 (List.mem_of_getElem? hx35)
    have hLax35:(List.map rd x35.2).length=x35.2.length:=List.length_map ..
    refine k_ix i [D.v (.int .i64 (x35.1)),D.list (List.map rd x35.2)] ωh (Ze hx35) rfl ?_
    refine⟨fun e4=> ?_,fun e4=> ?_⟩
    ·have f39:x35.1≤n:=of_decide_eq_true e4
     refine⟨(i+1,x35),⟨ω,ω,by have hh:=Zwl h3 (by rw [show i - 1+1=i by omega];exact hx35) ω;rwa [show i - 1+1=i+1 - 1 by omega] at hh⟩,by simp only;omega,?_⟩
     constructor<;>(repeat' (first|exact rfl|exact True.intro|apply And.intro))
     all_goals first
      |exact ωb
      |exact ωa
    ·have f39:¬ (x35.1≤n):=of_decide_eq_false e4
     refine get_ex (l:=t) (i:=(i - 1)) ωm fun x43 hx43=> ?_
     have hzx43:=ht.2 x43 (List.mem_of_getElem? hx43)
     have hLax43:(List.map rd x43.2).length=x43.2.length:=List.length_map ..
     have he43:x43=x:=Option.some.inj (hx43.symm.trans h3.1)
     have hle43:x43.1≤n:=by rw [he43];exact h3.2.1
     refine k_ix (i - 1) [D.v (.int .i64 (x43.1)),D.list (List.map rd x43.2)] ωh (Ze hx43) rfl ?_
     refine k_ix i [D.v (.int .i64 (x35.1)),D.list (List.map rd x35.2)] ωh (Ze hx35) rfl ?_
     refine⟨ωr,?_⟩
     refine k_of (x43.1) ω ω fun q51 h51 z51=> ?_
     simp only [cn_z] at z51
     refine k_of (n) ω ω fun q54 h54 z54=> ?_
     simp only [cn_z] at z54
     refine Zap (x:=cn q54) (y:=cn q51) ωz ωz fun q56 h56 z56=> ?_
     simp only [cn_z] at z56
     simp only [cn_q] at h56
     refine k_of (x35.1) ω ω fun q59 h59 z59=> ?_
     simp only [cn_z] at z59
     refine Zap (x:=cn q59) (y:=cn q51) ωz ωz fun q61 h61 z61=> ?_
     simp only [cn_z] at z61
     simp only [cn_q] at h61
     refine Zhm (x:=cn q56) (y:=cn q61) ωz ωz (by rw [cn_q,h61,h59,h51];exact ZtF ω) fun q62 h62 z62=> ?_
     simp only [cn_z] at z62
     simp only [cn_q] at h62
     refine⟨ωr,?_⟩
     have hs62:q62=(((n:Rat) - (x43.1:Rat)) / ((x35.1:Rat) - (x43.1:Rat))):=by rw [h62,h56,h61,h59,h54,h51]
     have hmn:(if ((List.map rd x35.2).length:Int)< ((List.map rd x43.2).length:Int) then ((List.map rd x35.2).length:Int) else ((List.map rd x43.2).length:Int))=((min x43.2.length x35.2.length:Nat):Int):=by rw [hLax35,hLax43];split<;>omega
     refine⟨Nat,fun k=> [(6,.val (.one (.ptr 6 0))),(7,.val (.one (.ptr 7 0))),(9,.val (.one (.ptr 9 0))),(11,.val (.one (.row 96 0))),(71,int ((min x43.2.length x35.2.length:Nat):Int)),(72,int (k:Int))],
      fun k=> [(6,.var 50 [.d (.v (.int .i64 (x43.1))),.d (.list (List.map rd x43.2))]),(7,.var 50 [.d (.v (.int .i64 (x35.1))),.d (.list (List.map rd x35.2))]),(9,.var 25 [.d (.v (.bool (cn q62).s)),.d (.v (.string (cn q62).a)),.d (.v (.string (cn q62).d))]),(96,.row 25 3 0 (List.map rdc (itL (((n:Rat) - (x43.1:Rat)) / ((x35.1:Rat) - (x43.1:Rat))) x43.2 x35.2 k)) true)],fun k=>k≤min x43.2.length x35.2.length,fun k=>min x43.2.length x35.2.length - k,0,?_,Nat.zero_le _,fun k hs=> ?_⟩
     ·constructor<;>(repeat' (first|exact rfl|exact True.intro|exact⟨_,_,rfl⟩|exact ωd|apply And.intro))
      all_goals first
       |exact congrArg (fun n:Int=>D.v (.int .i64 n)) hmn
       |exact congrArg (fun n:Int=>D.v (.int .i64 n)) hmn.symm
       |exact ωa
       |(simp;done)
     have hT:(List.map rdc (itL (((n:Rat) - (x43.1:Rat)) / ((x35.1:Rat) - (x43.1:Rat))) x43.2 x35.2 k)).length≤1048576:=by rw [List.length_map,ZiT];omega
     refine⟨fun e5=> ?_,fun e5=> ?_⟩
     ·have f73:(k:Int)< ((min x43.2.length x35.2.length:Nat):Int):=of_decide_eq_true e5
      refine get_ex (l:=x43.2) (i:=k) ωm fun x79 hx79=> ?_
      have hzx79:=hzx43.2.2 x79 (List.mem_of_getElem? hx79)
      refine k_ix k [D.v (.bool x79.s),D.v (.string x79.a),D.v (.string x79.d)] ωh (Ze hx79) rfl ?_
      refine get_ex (l:=x35.2) (i:=k) ωm fun x85 hx85=> ?_
      have hzx85:=hzx35.2.2 x85 (List.mem_of_getElem? hx85)
      refine k_ix k [D.v (.bool x85.s),D.v (.string x85.a),D.v (.string x85.d)] ωh (Ze hx85) rfl ?_
      refine k_ix k [D.v (.bool x79.s),D.v (.string x79.a),D.v (.string x79.d)] ωh (Ze hx79) rfl ?_
      refine Zap (x:=x85) (y:=x79) ω ω fun q92 h92 z92=> ?_
      simp only [cn_z] at z92
      refine Z3 (x:=cn q62) (y:=cn q92) ωz ωz fun q93 h93 z93=> ?_
      simp only [cn_z] at z93
      simp only [cn_q] at h93
      refine ZaJ (x:=x79) (y:=cn q93) ω ωz fun q94 h94 z94=> ?_
      simp only [cn_z] at z94
      simp only [cn_q] at h94
      refine⟨⟨row1 rfl,(by show ((List.map rdc (itL (((n:Rat) - (x43.1:Rat)) / ((x35.1:Rat) - (x43.1:Rat))) x43.2 x35.2 k)).length+1)*40≤_;omega),(by show ((List.map rdc (itL (((n:Rat) - (x43.1:Rat)) / ((x35.1:Rat) - (x43.1:Rat))) x43.2 x35.2 k)).length+1)≤_;omega)⟩,?_⟩
      refine⟨ωr,?_⟩
      have e94:q94=itF (((n:Rat) - (x43.1:Rat)) / ((x35.1:Rat) - (x43.1:Rat))) x43.2 x35.2 k:=by rw [h94,h93,h92,hs62];unfold itF;rw [ZbF hx79,ZbF hx85]
      clear h94
      subst e94
      refine⟨k+1,ω,by simp only;omega,?_⟩
      constructor<;>(repeat' (first|exact rfl|exact True.intro|apply And.intro))
      all_goals first
       |(rw [ZqK];rfl)
       |exact ωb
       |exact ωa
     ·have f73:¬ ((k:Int)< ((min x43.2.length x35.2.length:Nat):Int)):=of_decide_eq_false e5
      refine Eq.trans (b:= .val (.one (.d (.list (List.map rdc (itL (((n:Rat) - (x43.1:Rat)) / ((x35.1:Rat) - (x43.1:Rat))) x43.2 x35.2 k)))))) ?_ rfl
      have hkk:k=min x43.2.length x35.2.length:=ω
      rw [ZvJ h3 (by rw [show i - 1+1=i by omega];exact hx35) ω,← he43,hkk]
   ·have f30:¬ ((i:Int)< ((List.map keyD t).length:Int)):=of_decide_eq_false e3
    refine get_ex (l:=t) (i:=(t.length - 1)) ωm fun x103 hx103=> ?_
    have hzx103:=ht.2 x103 (List.mem_of_getElem? hx103)
    have hLax103:(List.map rd x103.2).length=x103.2.length:=List.length_map ..
    refine k_ix (t.length - 1) [D.v (.int .i64 (x103.1)),D.list (List.map rd x103.2)] ωh (Ze hx103) rfl ?_
    refine Zki (l:=x103.2) hzx103.2.2 hzx103.2.1 ?_
    refine Eq.trans (b:= .val (.one (.d (.list (List.map rdc (qsL x103.2)))))) ?_ rfl
    have hx:x=x103:=Option.some.inj (h3.1.symm.trans (by rw [show i - 1=t.length - 1 by omega];exact hx103))
    rw [ZtP h3 ω,hx]
end
