/- Joined by wip/bundle.py: XRefZ XArmR. -/
import Derived.Test.YtjlhknppkodilaaGreatDoorArmA
import Derived.Test.YtjlhknppkodilaaGreatDoorGrpO
import Derived.Shelf.Strings.SlTrimAscii
set_option maxRecDepth 100000
namespace Go.Proofs.YtjlhknppkodilaaGreatDoor.eng
open Go.RowKit num mem seg q held ratA ratB ratC ratD ratE vars ratF natC natD natI sub32
def q3p (p q:Rat):AV:= .val (.agg [.d (.v (.bool (decide (p.num< 0)))),.d (.list (W (w32 p.num.natAbs))),.d (.list (W (w32 p.den))),.d (.v (.bool (decide (q.num< 0)))),.d (.list (W (w32 q.num.natAbs))),.d (.list (W (w32 q.den)))])
def rqv (p:RV×RV):List D:=q3d p.1.q++q3d p.2.q
theorem c3_lt {n:Int} {p q:Rat} (h:n=sgnQ (p - q)):n< 0↔p< q:=(Zdy h).trans ⟨fun h=>by grind,fun h=>by grind⟩
theorem ZoO {n:Int} {p q:Rat} (h:n=sgnQ (p - q)):n≤0↔p≤q:=(ZN h).trans ⟨fun h=>by grind,fun h=>by grind⟩
theorem Znq {n:Int} {p q:Rat} (h:n=sgnQ (p - q)):n≥0↔q≤p:=(Zo8 h).trans ⟨fun h=>by grind,fun h=>by grind⟩
section
variable {K : AV → Prop} {x : RV}
theorem Zfm (p:UInt8→Bool) (l:List UInt8):l.dropWhile p= []↔∀ x∈l,p x=true:=by
 induction l with
 |nil=>simp
 |cons c l ih=>
  rw [List.dropWhile_cons]
  by_cases h:p c=true
  ·rw [if_pos h,ih];simp [h]
  ·rw [if_neg h];simp [h]
theorem ZlK (p:UInt8→Bool):∀ (l:List UInt8) (c:UInt8) (r:List UInt8),l.dropWhile p=c :: r→p c=false:=by
 intro l
 induction l with
 |nil=>intro c r h;simp at h
 |cons d l ih=>
  intro c r h
  rw [List.dropWhile_cons] at h
  by_cases hd:p d=true
  ·rw [if_pos hd] at h;exact ih c r h
  ·rw [if_neg hd] at h
   injection h with h1 h2
   rw [← h1]
   simpa using hd
theorem ZjS (l cs:List UInt8):Lib.trimS l cs= []↔∀ x∈l,cs.contains x=true:=by
 unfold Lib.trimS Lib.trimLeftS Lib.trimRightS
 rw [Zfm]
 constructor
 ·intro h
  cases hr:l.reverse.dropWhile (cs.contains ·) with
  |nil=>
   have:=(Zfm _ _).1 hr
   intro x hx
   exact this x (List.mem_reverse.2 hx)
  |cons c r=>
   have h1:=ZlK _ _ _ _ hr
   have h2:=h c (by rw [hr];simp)
   rw [h1] at h2
   cases h2
 ·intro h x hx
  have h1:l.reverse.dropWhile (cs.contains ·)= []:=(Zfm _ _).2 (fun y hy=>h y (List.mem_reverse.1 hy))
  rw [h1] at hx
  cases hx
def letters:ByteArray:=⟨#[97,98,99,100,101,102,103,104,105,106,107,108,109,110,111,112,113,114,115,116,117,118,119,120,121,122]⟩
theorem Zeo (x:UInt8):letters.data.toList.contains x=true↔97≤x.toNat∧x.toNat≤122:=by
 have k:∀ n:Fin 256,(letters.data.toList.contains (UInt8.ofNat n.val)=true↔97≤n.val∧n.val≤122):=by decide+kernel
 have:=k ⟨x.toNat,UInt8.toNat_lt x⟩
 simpa using this
theorem ZiG (s:ByteArray) (hs:s.size≤1099511627776):Spec Tryz.prog Tab 105 [str s,str letters] (str ⟨(Lib.trimS s.data.toList letters.data.toList).toArray⟩):=
 Zu (Zt Tryz.func105 rfl rfl) rfl rfl fun w _=>
  (Any.strings_Trim_laid Tryz.lays160 (by kernel_rfl) s letters w (by omega) (by decide) (ascii_of_all (by decide))).mono fun _ _ h=>h
theorem ZjT (s:ByteArray):(⟨(Lib.trimS s.data.toList letters.data.toList).toArray⟩:ByteArray)=⟨#[]⟩↔∀ (j:Nat) (c:UInt8),s[j]? =some c→97≤c.toNat∧c.toNat≤122:=by
 have e0:(⟨(Lib.trimS s.data.toList letters.data.toList).toArray⟩:ByteArray)=⟨#[]⟩↔Lib.trimS s.data.toList letters.data.toList= []:=by
  constructor
  ·intro h
   have:=congrArg (fun b:ByteArray=>b.data.toList) h
   simpa using this
  ·intro h;rw [h]
 have e:∀ j:Nat,s[j]? =s.data.toList[j]? :=fun j=>by
  by_cases h:j< s.size
  ·rw [getElem?_pos s j h,List.getElem?_eq_getElem (show j< s.data.toList.length from h)];rfl
  ·rw [getElem?_neg s j h,List.getElem?_eq_none (show s.data.toList.length≤j from Nat.not_lt.1 h)]
 rw [e0,ZjS]
 constructor
 ·intro h j c hc
  rw [e] at hc
  exact(Zeo c).1 (h c (List.mem_of_getElem? hc))
 ·intro h c hc
  obtain⟨j,hj⟩:=List.mem_iff_getElem?.1 hc
  exact(Zeo c).2 (h j c (by rw [e];exact hj))
theorem Zoy {s c:ByteArray} (hc:c=letters) (hs:s.size≤1099511627776) (k:∀ r:ByteArray,(r=⟨#[]⟩↔∀ (j:Nat) (c:UInt8),s[j]? =some c→97≤c.toNat∧c.toNat≤122)→K (str r)):Ask 105 [str s,str c] K:=by
 subst hc
 exact use (ZiG s hs) rfl (k _ (ZjT s))
theorem ZoM (a b:Nat):cmp3 a b≤0↔a≤b:=by
 rw [← ZlW b a]
 unfold cmp3
 by_cases h:wlen 4 a=wlen 4 b
 ·rw [if_pos h,if_pos h.symm]
  by_cases h1:a< b
  ·rw [if_pos h1,if_neg (show ¬ b< a by omega),if_pos h1];omega
  ·by_cases h2:b< a
   ·rw [if_neg h1,if_pos h2,if_pos h2];omega
   ·rw [if_neg h1,if_neg h2,if_neg h2,if_neg h1]
 ·rw [if_neg h,if_neg (Ne.symm h)];omega
theorem Zie {a b:Nat} {vb:List (List D)} (hv:vb=W (w32 b)) (ha:wlen 4 a≤1099511627776) (hb:wlen 4 b≤1099511627776) (k:∀ v,(v≤0↔a≤b)→K (int v)):Ask 55 [n3 a,.val (.one (.d (.list vb)))] K:=by
 subst hv
 exact use (ZdU a b ha hb) rfl (k _ (ZoM a b))
theorem w32_one' {n:Nat} (h:n< 4294967296) (h0:0< n):w32 n= [n]:=by
 have hw:=ZeH (l:= [n]) (fun d hd=>by rw [List.mem_singleton.1 hd];exact h) (fun d t e=>by
  cases t with
  |nil=>simp at e;omega
  |cons a t=>simp at e)
 rwa [show lv 4294967296 [n]=n by simp [lv]] at hw
end
end Go.Proofs.YtjlhknppkodilaaGreatDoor.eng
namespace Go.Proofs.YtjlhknppkodilaaGreatDoor.eng
open Go.RowKit num mem seg q held ratA ratB ratC ratD ratE vars ratF natC natD natI sub32
section
variable {K : AV → Prop}
theorem ZhC (x:RV) (hx:x.z≤8589934592):Spec Tryz.prog Tab 106 [rat x] (bool (decide (smallP x))):=by
 refine Zf Tryz.func106 rfl rfl Tryz.ntmps106 rfl (by kernel_rfl) rfl rfl ?_
 refine Zgh (x:=x) (by omega) (fun g4=> ?_) (fun g4=> ?_)
 ·have hc:=RV.good_cn g4
  have ha:x.a=enc x.q.num.natAbs:=congrArg RV.a hc
  have hd:x.d=enc x.q.den:=congrArg RV.d hc
  have hza:x.a.size≤x.z:=Nat.le_max_left _ _
  have hzd:x.d.size≤x.z:=Nat.le_max_right _ _
  refine Za2 ha (by rw [← ha];omega) ?_
  refine Zie (b:=1000000) (by rw [w32_one' (by decide) (by decide)];rfl) (ZY (by rw [← ha];omega)) (ZY (by decide+kernel)) fun n10 hc10=> ?_
  refine fork (fun e1=> ?_) (fun e1=> ?_)
  ·have f13:n10≤0:=of_decide_eq_true e1
   refine Za2 hd (by rw [← hd];omega) ?_
   refine Zie (b:=1000) (by rw [w32_one' (by decide) (by decide)];rfl) (ZY (by rw [← hd];omega)) (ZY (by decide+kernel)) fun n18 hc18=> ?_
   refine Eq.trans (b:=bool (decide (n18≤0))) ?_ rfl
   have e1:nv x.a=x.q.num.natAbs:=by rw [ha,Zi]
   have e2:nv x.d=x.q.den:=by rw [hd,Zi]
   rw [show decide (smallP x)=decide (n18≤0) from decide_eq_decide.2 ⟨fun h=>hc18.2 (by rw [← e2];exact h.2.2),fun h=>⟨g4,by rw [e1];exact hc10.1 f13,by rw [e2];exact hc18.1 h⟩⟩]
  ·have f13:¬ (n10≤0):=of_decide_eq_false e1
   refine Eq.trans (b:=bool false) ?_ rfl
   have e1:nv x.a=x.q.num.natAbs:=by rw [ha,Zi]
   have e2:nv x.d=x.q.den:=by rw [hd,Zi]
   rw [show decide (smallP x)=false from decide_eq_false fun h=>f13 (hc10.2 (by rw [← e1];exact h.2.1))]
 ·refine Eq.trans (b:=bool false) ?_ rfl
  rw [show decide (smallP x)=false from decide_eq_false fun h=>g4 h.1]
theorem Znc {x:RV} (hx:x.z≤8589934592) (k:K (bool (decide (smallP x)))):Ask 106 [rat x] K:=use (ZhC x hx) rfl k
theorem ZaJ (l:List RV) (hl:∀ x,x∈l→x.z≤1073741824) (hn:l.length≤1073741824):Spec Tryz.prog Tab 89 [.val (.one (.d (.list (List.map rd l))))] (bool (smB l)):=by
 have hL:(List.map rd l).length=l.length:=List.length_map ..
 refine Zf Tryz.func89 rfl rfl Tryz.ntmps89 rfl (by kernel_rfl) rfl rfl ?_
 refine⟨Nat,fun i=> [(5,.val (.one (.d (.list (List.map rd l))))),(6,int ((List.map rd l).length:Int)),(7,int (i:Int))],
  fun i=> [],fun i=>i≤l.length∧∀ (j:Nat) (x:RV),j< i→l[j]? =some x→smallP x,fun i=>l.length - i,0,?_,⟨Nat.zero_le _,fun j c h=>absurd h (Nat.not_lt_zero _)⟩,fun i hs=> ?_⟩
 ·constructor<;>(repeat' (first|exact rfl|exact True.intro|exact⟨_,_,rfl⟩|exact(by decide)|apply And.intro))
  all_goals first|exact congrArg (fun n:Int=>D.v (.int .i64 n)) (by omega)|exact congrArg (fun n:Int=>D.v (.int .i64 n)) (by rw [wrap64 _ (by omega) (by omega)];omega)|(simp;done)
 obtain⟨hi,h1⟩:=hs
 refine⟨fun e1=> ?_,fun e1=> ?_⟩
 ·have f8:(i:Int)< ((List.map rd l).length:Int):=of_decide_eq_true e1
  obtain⟨x9,hx9⟩:∃ vv,l[i]? =some vv:=⟨_,List.getElem?_eq_getElem (by first|omega|exact Nat.mod_lt _ (by omega))⟩
  have hzx9:=hl x9 (List.mem_of_getElem? hx9)
  refine k_ix i [D.v (.bool x9.s),D.v (.string x9.a),D.v (.string x9.d)] (by first|rfl|omega|(rw [wrap64 _ (by omega) (by omega)];omega)) (Zm hx9) rfl ?_
  refine Znc (x:=x9) (by omega) ?_
  refine⟨fun e2=> ?_,fun e2=> ?_⟩
  ·have f13:¬ (smallP x9):=of_decide_eq_false (ZcO e2)
   refine Eq.trans (b:=bool false) ?_ rfl
   rw [show smB l=false from Bool.eq_false_iff.2 fun h=>f13 (ZeQ.1 h x9 (List.mem_of_getElem? hx9))]
  ·have f13:¬ (¬ (smallP x9)):=fun hh=>hh (of_decide_eq_true (ZcP e2))
   have f12:smallP x9:=Classical.byContradiction fun hh=>f13 hh
   refine⟨i+1,⟨by omega,fun j c g hc=>by
    by_cases e:j=i
    ·subst e;rw [hx9] at hc;obtain rfl:=Option.some.inj hc;exact f12
    ·exact h1 j c (by omega) hc⟩,by simp only;omega,?_⟩
   constructor<;>(repeat' (first|exact rfl|exact True.intro|apply And.intro))
   all_goals first
    |exact congrArg (fun n:Int=>D.v (.int .i64 n)) (by rw [wrap64 _ (by omega) (by omega)];omega)
    |exact congrArg (fun n:Int=>D.v (.int .i64 n)) (by omega)
 ·have f8:¬ ((i:Int)< ((List.map rd l).length:Int)):=of_decide_eq_false e1
  refine Eq.trans (b:=bool true) ?_ rfl
  rw [show smB l=true from ZeQ.2 fun x hx=>by
   obtain⟨j,hj⟩:=List.mem_iff_getElem?.1 hx
   exact h1 j x (by have:=(List.getElem?_eq_some_iff.1 hj).1;omega) hj]
theorem ZoP (x y:RV) (hx:x.z≤1073741824) (hy:y.z≤1073741824):Spec Tryz.prog Tab 122 [pair x y] (q3p x.q y.q):=by
 refine Zf Tryz.func122 rfl rfl Tryz.ntmps122 rfl (by kernel_rfl) rfl rfl ?_
 refine ZC (x:=x) (by omega) fun q5 h5 z5=> ?_
 refine ZC (x:=y) (by omega) fun q8 h8 z8=> ?_
 refine⟨by kernel_rfl,?_⟩
 refine Eq.trans (b:=q3p q5 q8) ?_ rfl
 subst_vars;rfl
theorem k_Pt {x y:RV} (hx:x.z≤1073741824) (hy:y.z≤1073741824) (k:∀ p q,p=x.q→q=y.q→qs p≤x.z+1→qs q≤y.z+1→K (q3p p q)):Ask 122 [pair x y] K:=use (ZoP x y hx hy) rfl (k _ _ rfl rfl x.z1 y.z1)
theorem Zme  (p q r u:Rat) (hp:qs p≤1073741824) (hq:qs q≤1073741824) (hr:qs r≤1073741824) (hu:qs u≤1073741824):Spec Tryz.prog Tab 108 [q3p p q,q3p r u] (q3p (p - r) (q - u)):=by
 refine Zf Tryz.func108 rfl rfl Tryz.ntmps108 rfl (by kernel_rfl) rfl rfl ?_
 refine ZdJ (p:=p) (q:=r) (by omega) (by omega) fun q9 h9 z9=> ?_
 refine ZdJ (p:=q) (q:=u) (by omega) (by omega) fun q14 h14 z14=> ?_
 refine⟨by kernel_rfl,?_⟩
 refine Eq.trans (b:=q3p q9 q14) ?_ rfl
 subst_vars;rfl
section
variable  {p q r u : Rat}
theorem ZnQ (hp:qs p≤1073741824) (hq:qs q≤1073741824) (hr:qs r≤1073741824) (hu:qs u≤1073741824) (k:∀ ya yb,ya=p - r→yb=q - u→qs ya≤qs p+qs r+1→qs yb≤qs q+qs u+1→K (q3p ya yb)):Ask 108 [q3p p q,q3p r u] K:=
 use (Zme  p q r u hp hq hr hu) rfl (k _ _ rfl rfl (by have:=Zcq p r;omega) (by have:=Zcq q u;omega))
end
theorem ZhD  (p q r u:Rat) (hp:qs p≤536870911) (hq:qs q≤536870911) (hr:qs r≤536870911) (hu:qs u≤536870911):Spec Tryz.prog Tab 109 [q3p p q,q3p r u] (q3 (p*u - q*r)):=by
 refine Zf Tryz.func109 rfl rfl Tryz.ntmps109 rfl (by kernel_rfl) rfl rfl ?_
 refine Zer (p:=p) (q:=u) (by omega) (by omega) fun q9 h9 z9=> ?_
 refine Zer (p:=q) (q:=r) (by omega) (by omega) fun q14 h14 z14=> ?_
 refine ZdJ (p:=q9) (q:=q14) (by omega) (by omega) fun q15 h15 z15=> ?_
 refine⟨by kernel_rfl,?_⟩
 refine Eq.trans (b:=q3 q15) ?_ rfl
 subst_vars;rfl
section
variable  {p q r u : Rat}
theorem Znd (hp:qs p≤536870911) (hq:qs q≤536870911) (hr:qs r≤536870911) (hu:qs u≤536870911) (k:∀ ya,ya=p*u - q*r→qs ya≤qs p+qs u+qs q+qs r+3→K (q3 ya)):Ask 109 [q3p p q,q3p r u] K:=
 use (ZhD  p q r u hp hq hr hu) rfl (k _ rfl (by have:=Zbo p u;have:=Zbo q r;have:=Zcq (p*u) (q*r);omega))
end
section
variable  {p q r u : Rat}
end
theorem Zgn {f:Nat→poly.Pt} {n:Nat} (h3:3≤n) (h:∀ i c,i< n→c< n→c≠i→c≠(i+1) % n→0< poly.ori (f i) (f ((i+1) % n)) (f c)):poly.Edges f n:=by
 intro i k hi h2 hk
 have e1:(i+1) % n=if i+1< n then i+1 else 0:=by
  split
  ·exact Nat.mod_eq_of_lt (by omega)
  ·rw [show i+1=n by omega,Nat.mod_self]
 have e2:(i+k) % n=if i+k< n then i+k else i+k - n:=by
  split
  ·exact Nat.mod_eq_of_lt (by omega)
  ·rw [Nat.mod_eq_sub_mod (by omega),Nat.mod_eq_of_lt (by omega)]
 refine h i ((i+k) % n) hi (Nat.mod_lt _ (by omega)) ?_ ?_
 ·rw [e2];split<;>omega
 ·rw [e2,e1];split<;>split<;>omega
theorem Zgy {f:Nat→poly.Pt} {n:Nat} (h:poly.Edges f n) {i c:Nat} (hi:i< n) (hc:c< n) (h1:c≠i) (h2:c≠(i+1) % n):0< poly.ori (f i) (f ((i+1) % n)) (f c):=by
 have e1:(i+1) % n=if i+1< n then i+1 else 0:=by
  split
  ·exact Nat.mod_eq_of_lt (by omega)
  ·rw [show i+1=n by omega,Nat.mod_self]
 rw [e1] at h2
 by_cases hlt:i< c
 ·have:=h i (c - i) hi (by split at h2<;>omega) (by omega)
  rwa [show (i+(c - i)) % n=c by rw [show i+(c - i)=c by omega,Nat.mod_eq_of_lt hc]] at this
 ·have:=h i (c+n - i) hi (by split at h2<;>omega) (by omega)
  rwa [show (i+(c+n - i)) % n=c by rw [show i+(c+n - i)=c+n by omega,Nat.add_mod_right,Nat.mod_eq_of_lt hc]] at this
theorem Znz (l:List (RV×RV)) (hl:∀ p,p∈l→p.1.z≤67108864∧p.2.z≤67108864) (hn:l.length≤1073741824):Spec Tryz.prog Tab 107 [.val (.one (.d (.list (List.map rdv l))))] (.val (.one (.d (.list (List.map rqv l))))):=by
 have hL:(List.map rdv l).length=l.length:=List.length_map ..
 refine Zf Tryz.func107 rfl rfl Tryz.ntmps107 rfl (by kernel_rfl) rfl rfl ?_
 refine⟨Nat,fun i=> [(3,.val (.one (.row 16 0))),(6,.val (.one (.d (.list (List.map rdv l))))),(7,int ((List.map rdv l).length:Int)),(8,int (i:Int))],
  fun i=> [(16,.row 140 6 0 (List.map rqv (l.take i)) true)],fun i=>i≤l.length,fun i=>l.length - i,0,?_,Nat.zero_le _,fun i hs=> ?_⟩
 ·constructor<;>(repeat' (first|exact rfl|exact True.intro|exact⟨_,_,rfl⟩|exact(by decide)|apply And.intro))
  all_goals first|exact congrArg (fun n:Int=>D.v (.int .i64 n)) (by omega)|exact congrArg (fun n:Int=>D.v (.int .i64 n)) (by rw [wrap64 _ (by omega) (by omega)];omega)|(simp;done)
 have hT:(List.map rqv (l.take i)).length≤1073741824:=by rw [List.length_map,List.length_take];omega
 refine⟨fun e1=> ?_,fun e1=> ?_⟩
 ·have f9:(i:Int)< ((List.map rdv l).length:Int):=of_decide_eq_true e1
  obtain⟨x10,hx10⟩:∃ vv,l[i]? =some vv:=⟨_,List.getElem?_eq_getElem (by first|omega|exact Nat.mod_lt _ (by omega))⟩
  have hzx10:=hl x10 (List.mem_of_getElem? hx10)
  refine k_ix i [D.v (.bool x10.1.s),D.v (.string x10.1.a),D.v (.string x10.1.d),D.v (.bool x10.2.s),D.v (.string x10.2.a),D.v (.string x10.2.d)] (by first|rfl|omega|(rw [wrap64 _ (by omega) (by omega)];omega)) (Zm hx10) rfl ?_
  refine k_Pt (x:=x10.1) (y:=x10.2) (by omega) (by omega) (fun p14 q14 hk_14_2 hk_14_3 hk_14_4 hk_14_5=> ?_)
  refine⟨⟨row1 rfl,(by show ((List.map rqv (l.take i)).length+1)*112≤_;omega),(by show ((List.map rqv (l.take i)).length+1)≤_;omega)⟩,?_⟩
  subst hk_14_2 hk_14_3
  refine⟨i+1,by omega,by simp only;omega,?_⟩
  constructor<;>(repeat' (first|exact rfl|exact True.intro|apply And.intro))
  all_goals first
   |(rw [ZmY hx10];rfl)
   |exact congrArg (fun n:Int=>D.v (.int .i64 n)) (by rw [wrap64 _ (by omega) (by omega)];omega)
   |exact congrArg (fun n:Int=>D.v (.int .i64 n)) (by omega)
 ·have f9:¬ ((i:Int)< ((List.map rdv l).length:Int)):=of_decide_eq_false e1
  refine Eq.trans (b:= .val (.one (.d (.list (List.map rqv (l.take i)))))) ?_ rfl
  rw [List.take_of_length_le (by omega)]
theorem Zp9 {l:List (RV×RV)} (hl:∀ p,p∈l→p.1.z≤67108864∧p.2.z≤67108864) (hn:l.length≤1073741824) (k:K (.val (.one (.d (.list (List.map rqv l)))))):Ask 107 [.val (.one (.d (.list (List.map rdv l))))] K:=use (Znz l hl hn) rfl k
set_option maxHeartbeats 1000000 in
theorem Zd7 (l:List (RV×RV)) (hl:∀ p,p∈l→p.1.z≤67108864∧p.2.z≤67108864) (hn:l.length≤1073741824):Spec Tryz.prog Tab 90 [.val (.one (.d (.list (List.map rdv l))))] (int (convE 8 l)):=by
 have hL:(List.map rdv l).length=l.length:=List.length_map ..
 have hLq:(List.map rqv l).length=l.length:=List.length_map ..
 refine Zf Tryz.func90 rfl rfl Tryz.ntmps90 rfl (by kernel_rfl) rfl rfl ?_
 refine⟨fun e1=> ?_,fun e1=> ?_⟩
 ·have f11:((List.map rdv l).length:Int) >8:=of_decide_eq_true e1
  refine Eq.trans (b:=int 2) ?_ rfl
  rw [ZlR (by omega)]
 ·have f11:¬ (((List.map rdv l).length:Int) >8):=of_decide_eq_false e1
  refine⟨fun e2=> ?_,fun e2=> ?_⟩
  ·have f14:((List.map rdv l).length:Int)< 3:=of_decide_eq_true e2
   refine Eq.trans (b:=int 3) ?_ rfl
   rw [ZlQ (by omega) (by omega)]
  ·have f14:¬ (((List.map rdv l).length:Int)< 3):=of_decide_eq_false e2
   refine Zp9 (l:=l) (by assumption) (by omega) ?_
   refine⟨Nat,fun i=> [(3,.val (.one (.d (.list (List.map rqv l))))),(17,.val (.one (.d (.list (List.map rqv l))))),(18,int ((List.map rqv l).length:Int)),(19,int (i:Int))],
    fun i=> [],fun i=>i≤l.length∧∀ i' c,i'< i→c< l.length→c≠i'→c≠(i'+1) % l.length→0< poly.ori (pts l i') (pts l ((i'+1) % l.length)) (pts l c),fun i=>l.length - i,0,?_,⟨Nat.zero_le _,fun i' c h=>absurd h (Nat.not_lt_zero _)⟩,fun i hs=> ?_⟩
   ·constructor<;>(repeat' (first|exact rfl|exact True.intro|exact⟨_,_,rfl⟩|exact(by decide)|apply And.intro))
    all_goals first|exact congrArg (fun n:Int=>D.v (.int .i64 n)) (by omega)|exact congrArg (fun n:Int=>D.v (.int .i64 n)) (by rw [wrap64 _ (by omega) (by omega)];omega)|(simp;done)
   obtain⟨hi,h1⟩:=hs
   refine⟨fun e3=> ?_,fun e3=> ?_⟩
   ·have f20:(i:Int)< ((List.map rqv l).length:Int):=of_decide_eq_true e3
    obtain⟨x22,hx22⟩:∃ vv,l[i]? =some vv:=⟨_,List.getElem?_eq_getElem (by first|omega|exact Nat.mod_lt _ (by omega))⟩
    have hzx22:=hl x22 (List.mem_of_getElem? hx22)
    have hpx22:=ZbR hx22
    have hqx221:=x22.1.z1
    have hqx222:=x22.2.z1
    refine k_ix i [D.v (.bool (decide (x22.1.q.num< 0))),D.list (W (w32 x22.1.q.num.natAbs)),D.list (W (w32 x22.1.q.den)),D.v (.bool (decide (x22.2.q.num< 0))),D.list (W (w32 x22.2.q.num.natAbs)),D.list (W (w32 x22.2.q.den))] (by first|rfl|omega|(rw [wrap64 _ (by omega) (by omega)];omega)) (Zm hx22) rfl ?_
    refine Zic (i+1) l.length (by first|rfl|omega|(rw [wrap64 _ (by omega) (by omega)];omega)) (by first|rfl|omega|(rw [wrap64 _ (by omega) (by omega)];omega)) (by omega) ?_
    obtain⟨x30,hx30⟩:∃ vv,l[((i+1) % l.length)]? =some vv:=⟨_,List.getElem?_eq_getElem (by first|omega|exact Nat.mod_lt _ (by omega))⟩
    have hzx30:=hl x30 (List.mem_of_getElem? hx30)
    have hpx30:=ZbR hx30
    have hqx301:=x30.1.z1
    have hqx302:=x30.2.z1
    refine k_ix ((i+1) % l.length) [D.v (.bool (decide (x30.1.q.num< 0))),D.list (W (w32 x30.1.q.num.natAbs)),D.list (W (w32 x30.1.q.den)),D.v (.bool (decide (x30.2.q.num< 0))),D.list (W (w32 x30.2.q.num.natAbs)),D.list (W (w32 x30.2.q.den))] (by first|rfl|omega|(rw [wrap64 _ (by omega) (by omega)];omega)) (Zm hx30) rfl ?_
    refine⟨Nat,fun k=> [(3,.val (.one (.d (.list (List.map rqv l))))),(4,int (i:Int)),(5,.val (.one (.ptr 5 0))),(6,.val (.one (.ptr 6 0))),(17,.val (.one (.d (.list (List.map rqv l))))),(18,int ((List.map rqv l).length:Int)),(19,int (i:Int)),(32,.val (.one (.d (.list (List.map rqv l))))),(33,int ((List.map rqv l).length:Int)),(34,int (k:Int))],
     fun k=> [(5,.var 140 [.d (.v (.bool (decide (x22.1.q.num< 0)))),.d (.list (W (w32 x22.1.q.num.natAbs))),.d (.list (W (w32 x22.1.q.den))),.d (.v (.bool (decide (x22.2.q.num< 0)))),.d (.list (W (w32 x22.2.q.num.natAbs))),.d (.list (W (w32 x22.2.q.den)))]),(6,.var 140 [.d (.v (.bool (decide (x30.1.q.num< 0)))),.d (.list (W (w32 x30.1.q.num.natAbs))),.d (.list (W (w32 x30.1.q.den))),.d (.v (.bool (decide (x30.2.q.num< 0)))),.d (.list (W (w32 x30.2.q.num.natAbs))),.d (.list (W (w32 x30.2.q.den)))])],fun k=>k≤l.length∧∀ c,c< k→c≠i→c≠(i+1) % l.length→0< poly.ori (pts l i) (pts l ((i+1) % l.length)) (pts l c),fun k=>l.length - k,0,?_,⟨Nat.zero_le _,fun c h=>absurd h (Nat.not_lt_zero _)⟩,fun k hs=> ?_⟩
    ·constructor<;>(repeat' (first|exact rfl|exact True.intro|exact⟨_,_,rfl⟩|exact(by decide)|apply And.intro))
     all_goals first|exact congrArg (fun n:Int=>D.v (.int .i64 n)) (by omega)|exact congrArg (fun n:Int=>D.v (.int .i64 n)) (by rw [wrap64 _ (by omega) (by omega)];omega)|(simp;done)
    obtain⟨hk,h2⟩:=hs
    refine⟨fun e4=> ?_,fun e4=> ?_⟩
    ·have f35:(k:Int)< ((List.map rqv l).length:Int):=of_decide_eq_true e4
     obtain⟨x37,hx37⟩:∃ vv,l[k]? =some vv:=⟨_,List.getElem?_eq_getElem (by first|omega|exact Nat.mod_lt _ (by omega))⟩
     have hzx37:=hl x37 (List.mem_of_getElem? hx37)
     have hpx37:=ZbR hx37
     have hqx371:=x37.1.z1
     have hqx372:=x37.2.z1
     refine k_ix k [D.v (.bool (decide (x37.1.q.num< 0))),D.list (W (w32 x37.1.q.num.natAbs)),D.list (W (w32 x37.1.q.den)),D.v (.bool (decide (x37.2.q.num< 0))),D.list (W (w32 x37.2.q.num.natAbs)),D.list (W (w32 x37.2.q.den))] (by first|rfl|omega|(rw [wrap64 _ (by omega) (by omega)];omega)) (Zm hx37) rfl ?_
     refine fork (fun e5=> ?_) (fun e5=> ?_)
     ·have f42:(k:Int)≠(i:Int):=Zay e5
      refine Zic (i+1) l.length (by first|rfl|omega|(rw [wrap64 _ (by omega) (by omega)];omega)) (by first|rfl|omega|(rw [wrap64 _ (by omega) (by omega)];omega)) (by omega) ?_
      refine fork (fun e6=> ?_) (fun e6=> ?_)
      ·have f51:(k:Int)≠(((i+1) % l.length:Nat):Int):=Zay e6
       refine ZnQ (p:=x30.1.q) (q:=x30.2.q) (r:=x22.1.q) (u:=x22.2.q) (by omega) (by omega) (by omega) (by omega) (fun ya54 yb54 hk_54_2 hk_54_3 hk_54_4 hk_54_5=> ?_)
       refine ZnQ (p:=x37.1.q) (q:=x37.2.q) (r:=x22.1.q) (u:=x22.2.q) (by omega) (by omega) (by omega) (by omega) (fun ya57 yb57 hk_57_2 hk_57_3 hk_57_4 hk_57_5=> ?_)
       refine Znd (p:=ya54) (q:=yb54) (r:=ya57) (u:=yb57) (by omega) (by omega) (by omega) (by omega) (fun ya58 hk_58_1 hk_58_2=> ?_)
       refine Zat (q:=ya58) fun n59 h59=> ?_
       refine⟨by kernel_rfl,?_⟩
       refine⟨fun e7=> ?_,fun e7=> ?_⟩
       ·have f61:ya58≤0:=(ZN h59).1 (of_decide_eq_true e7)
        refine Eq.trans (b:=int 3) ?_ rfl
        rw [ZlP (by omega) (by omega) fun hE=>by
         have:=Zgy hE (i:=i) (c:=k) (by omega) (by omega) (by omega) (by omega)
         rw [hpx22,hpx30,hpx37] at this
         rw [hk_58_1,hk_54_2,hk_54_3,hk_57_2,hk_57_3] at f61
         exact absurd f61 (Rat.not_le.2 this)]
       ·have f61:¬ (ya58≤0):=fun hh=>of_decide_eq_false e7 ((ZN h59).2 hh)
        refine⟨k+1,⟨by omega,fun c g1 g2 g3=>by
         by_cases e:c=k
         ·subst e;rw [hpx22,hpx30,hpx37];exact Rat.not_le.1 (by rw [hk_58_1,hk_54_2,hk_54_3,hk_57_2,hk_57_3] at f61;exact f61)
         ·exact h2 c (by omega) g2 g3⟩,by simp only;omega,?_⟩
        constructor<;>(repeat' (first|exact rfl|exact True.intro|apply And.intro))
        all_goals first
         |exact congrArg (fun n:Int=>D.v (.int .i64 n)) (by rw [wrap64 _ (by omega) (by omega)];omega)
         |exact congrArg (fun n:Int=>D.v (.int .i64 n)) (by omega)
      ·have f51:¬ ((k:Int)≠(((i+1) % l.length:Nat):Int)):=fun hh=>hh (Zaz e6)
       refine⟨by kernel_rfl,?_⟩
       refine⟨fun e=>absurd e (by decide),fun _=> ?_⟩
       refine⟨k+1,⟨by omega,fun c g1 g2 g3=>by
        by_cases e:c=k
        ·subst e;exact absurd (by omega) f51
        ·exact h2 c (by omega) g2 g3⟩,by simp only;omega,?_⟩
       constructor<;>(repeat' (first|exact rfl|exact True.intro|apply And.intro))
       all_goals first
        |exact congrArg (fun n:Int=>D.v (.int .i64 n)) (by rw [wrap64 _ (by omega) (by omega)];omega)
        |exact congrArg (fun n:Int=>D.v (.int .i64 n)) (by omega)
     ·have f42:¬ ((k:Int)≠(i:Int)):=fun hh=>hh (Zaz e5)
      refine⟨by kernel_rfl,?_⟩
      refine⟨fun e=>absurd e (by decide),fun _=> ?_⟩
      refine⟨k+1,⟨by omega,fun c g1 g2 g3=>by
       by_cases e:c=k
       ·subst e;exact absurd (by omega) f42
       ·exact h2 c (by omega) g2 g3⟩,by simp only;omega,?_⟩
      constructor<;>(repeat' (first|exact rfl|exact True.intro|apply And.intro))
      all_goals first
       |exact congrArg (fun n:Int=>D.v (.int .i64 n)) (by rw [wrap64 _ (by omega) (by omega)];omega)
       |exact congrArg (fun n:Int=>D.v (.int .i64 n)) (by omega)
    ·have f35:¬ ((k:Int)< ((List.map rqv l).length:Int)):=of_decide_eq_false e4
     refine⟨i+1,⟨by omega,fun i' c g1 g2 g3 g4=>by
      by_cases e:i'=i
      ·subst e;exact h2 c (by omega) g3 g4
      ·exact h1 i' c (by omega) g2 g3 g4⟩,by simp only;omega,?_⟩
     constructor<;>(repeat' (first|exact rfl|exact True.intro|apply And.intro))
     all_goals first
      |exact congrArg (fun n:Int=>D.v (.int .i64 n)) (by rw [wrap64 _ (by omega) (by omega)];omega)
      |exact congrArg (fun n:Int=>D.v (.int .i64 n)) (by omega)
   ·have f20:¬ ((i:Int)< ((List.map rqv l).length:Int)):=of_decide_eq_false e3
    refine Eq.trans (b:=int 0) ?_ rfl
    rw [ZlS (by omega) (by omega) (Zgn (by omega) fun i c g1 g2 g3 g4=>h1 i c (by omega) g2 g3 g4)]
theorem ZdK {l:List (RV×RV)} (hl:∀ p,p∈l→p.1.z≤67108864∧p.2.z≤67108864) (hn:l.length≤1073741824) (k:∀ n,n=convE 8 l→K (int n)):Ask 90 [vecs l] K:=use (Zd7 l hl hn) rfl (k _ rfl)
theorem ZhF (s:ByteArray) (hs0:s.size≤1099511627776):Spec Tryz.prog Tab 88 [str s] (bool (nameOk s)):=by
 refine Zf Tryz.func88 rfl rfl Tryz.ntmps88 rfl (by kernel_rfl) rfl rfl ?_
 refine Zas (fun f4=> ?_) (fun f4=> ?_)
 ·refine Eq.trans (b:=bool false) ?_ rfl
  rw [show nameOk s=false from Bool.eq_false_iff.2 fun h=>by
   have:=(Zad.1 h).1
   rw [f4] at this;exact absurd this (by decide)]
 ·refine fork (fun e1=> ?_) (fun e1=> ?_)
  ·have f10:(s.size:Int)≤12:=of_decide_eq_true e1
   refine Zoy (s:=s) rfl (by omega) fun r12 hr12=> ?_
   refine Zb8 (fun f13=> ?_) (fun f13=> ?_)
   ·refine Eq.trans (b:=bool true) ?_ rfl
    have h1:1≤s.size:=Nat.one_le_iff_ne_zero.2 fun h=>f4 (by obtain⟨⟨l⟩⟩:=s;have:l= []:=List.eq_nil_of_length_eq_zero h;rw [this])
    rw [show nameOk s=true from Zad.2 ⟨h1,by omega,hr12.1 f13⟩]
   ·refine Eq.trans (b:=bool false) ?_ rfl
    rw [show nameOk s=false from Bool.eq_false_iff.2 fun h=>f13 (hr12.2 (Zad.1 h).2.2)]
  ·have f10:¬ ((s.size:Int)≤12):=of_decide_eq_false e1
   refine Eq.trans (b:=bool false) ?_ rfl
   rw [show nameOk s=false from Bool.eq_false_iff.2 fun h=>f10 (by have:=(Zad.1 h).2.1;omega)]
theorem Znf {s:ByteArray} (hs0:s.size≤1099511627776) (k:K (bool (nameOk s))):Ask 88 [str s] K:=use (ZhF s hs0) rfl k
set_option maxHeartbeats 4000000 in
theorem Zfv (A:ArmV) (hA:A.ok):Spec Tryz.prog Tab 73 [.val (.agg [.d (.v (.string A.name)),.d (.v (.bool A.bx.s)),.d (.v (.string A.bx.a)),.d (.v (.string A.bx.d)),.d (.v (.bool A.by'.s)),.d (.v (.string A.by'.a)),.d (.v (.string A.by'.d)),.d (.v (.bool (A.bh))),.d (.v (.bool A.bt.s)),.d (.v (.string A.bt.a)),.d (.v (.string A.bt.d)),.d (.list (List.map lk A.links))])] (int (armE A)):=by
 have hA2:=hA
 obtain⟨z1,z2,z3,z4,z5,z6⟩:=hA
 have hL:(List.map lk A.links).length=A.links.length:=List.length_map ..
 refine Zf Tryz.func73 rfl rfl Tryz.ntmps73 rfl (by kernel_rfl) rfl rfl ?_
 refine Znf (by omega) ?_
 refine⟨fun e1=> ?_,fun e1=> ?_⟩
 ·have f11:¬ (nameOk A.name=true):=fun hh=>ZbY hh (ZcO e1)
  refine Eq.trans (b:=int 3) ?_ rfl
  rw [show armE A=3 from if_neg f11]
 ·have f11:¬ (¬ (nameOk A.name=true)):=fun hh=>hh ((ZcP e1))
  refine⟨fun e2=> ?_,fun e2=> ?_⟩
  ·have f16:((List.map lk A.links).length:Int) >3:=of_decide_eq_true e2
   refine Eq.trans (b:=int 2) ?_ rfl
   have hnm:nameOk A.name=true:=Classical.not_not.1 f11
   rw [show armE A=2 by rw [armE,if_pos hnm,if_pos (by omega)]]
  ·have f16:¬ (((List.map lk A.links).length:Int) >3):=of_decide_eq_false e2
   refine fork (fun e3=> ?_) (fun e3=> ?_)
   ·have f26:((List.map lk A.links).length:Int)=0:=Zjw e3
    refine⟨fun _=> ?_,fun e=>absurd e (by decide)⟩
    refine Eq.trans (b:=int 1) ?_ rfl
    have hnm:nameOk A.name=true:=Classical.not_not.1 f11
    have h3:¬ 3< A.links.length:=by omega
    have hb:baseBad A:=by
     refine Classical.byContradiction fun hh=> ?_
     simp only [baseBad,not_or,Classical.not_not] at hh
     obtain⟨g1,g2,g3,g4,g5⟩:=hh
     first|exact g1 (by omega)|exact f40 ⟨g2,g3,g4⟩|exact g5 ⟨f44,by rw [← h48];exact f21⟩
    rw [show armE A=1 by rw [armE,if_pos hnm,if_neg h3,if_pos hb]]
   ·have f26:¬ (((List.map lk A.links).length:Int)=0):=Zjx e3
    refine use (ZaJ [A.bx,A.by',A.bt] (by intro x hx;simp only [List.mem_cons,List.not_mem_nil,or_false] at hx;rcases hx with rfl|rfl|rfl<;>omega) (by simp)) rfl ?_
    refine fork (fun e4=> ?_) (fun e4=> ?_)
    ·have f40:¬ (smallP A.bx∧smallP A.by'∧smallP A.bt):=fun hh=>ZbY (smB3.2 hh) (ZcO e4)
     refine⟨fun _=> ?_,fun e=>absurd e (by decide)⟩
     refine Eq.trans (b:=int 1) ?_ rfl
     have hnm:nameOk A.name=true:=Classical.not_not.1 f11
     have h3:¬ 3< A.links.length:=by omega
     have hb:baseBad A:=by
      refine Classical.byContradiction fun hh=> ?_
      simp only [baseBad,not_or,Classical.not_not] at hh
      obtain⟨g1,g2,g3,g4,g5⟩:=hh
      first|exact g1 (by omega)|exact f40 ⟨g2,g3,g4⟩|exact g5 ⟨f44,by rw [← h48];exact f21⟩
     rw [show armE A=1 by rw [armE,if_pos hnm,if_neg h3,if_pos hb]]
    ·have f40:¬ (¬ (smallP A.bx∧smallP A.by'∧smallP A.bt)):=fun hh=>hh (smB3.1 (ZcP e4))
     refine fork (fun e5=> ?_) (fun e5=> ?_)
     ·have f44:A.bh=true:=e5
      refine ZC (x:=A.bt) (by omega) fun q48 h48 z48=> ?_
      refine Zat (q:=q48) fun n49 h49=> ?_
      refine⟨fun e6=> ?_,fun e6=> ?_⟩
      ·have f21:¬ q48=0:=fun hh=>Zay e6 ((ZhU h49).2 hh)
       refine Eq.trans (b:=int 1) ?_ rfl
       have hnm:nameOk A.name=true:=Classical.not_not.1 f11
       have h3:¬ 3< A.links.length:=by omega
       have hb:baseBad A:=by
        refine Classical.byContradiction fun hh=> ?_
        simp only [baseBad,not_or,Classical.not_not] at hh
        obtain⟨g1,g2,g3,g4,g5⟩:=hh
        first|exact g1 (by omega)|exact f40 ⟨g2,g3,g4⟩|exact g5 ⟨f44,by rw [← h48];exact f21⟩
       rw [show armE A=1 by rw [armE,if_pos hnm,if_neg h3,if_pos hb]]
      ·have f21:¬ (¬ q48=0):=fun hh=>hh ((ZhU h49).1 (Zaz e6))
       refine⟨Nat,fun i=> [(54,.val (.one (.d (.list (List.map lk A.links))))),(55,int ((List.map lk A.links).length:Int)),(56,int (i:Int))],
        fun i=> [],fun i=>i≤A.links.length∧∀ (j:Nat) (m:LinkV),j< i→A.links[j]? =some m→linkE m=0,fun i=>A.links.length - i,0,?_,⟨Nat.zero_le _,fun j m h=>absurd h (Nat.not_lt_zero _)⟩,fun i hs=> ?_⟩
       ·constructor<;>(repeat' (first|exact rfl|exact True.intro|exact⟨_,_,rfl⟩|exact(by decide)|apply And.intro))
        all_goals first|exact congrArg (fun n:Int=>D.v (.int .i64 n)) (by omega)|exact congrArg (fun n:Int=>D.v (.int .i64 n)) (by rw [wrap64 _ (by omega) (by omega)];omega)|(simp;done)
       obtain⟨hi,h1⟩:=hs
       refine⟨fun e7=> ?_,fun e7=> ?_⟩
       ·have f57:(i:Int)< ((List.map lk A.links).length:Int):=of_decide_eq_true e7
        obtain⟨x58,hx58⟩:∃ vv,A.links[i]? =some vv:=⟨_,List.getElem?_eq_getElem (by first|omega|exact Nat.mod_lt _ (by omega))⟩
        obtain⟨hs1,hs2,hs3,hs4,hs5,hs6,hs7⟩:=z6 x58 (List.mem_of_getElem? hx58)
        refine k_ix i [D.v (.bool x58.len.s),D.v (.string x58.len.a),D.v (.string x58.len.d),D.v (.bool x58.low.s),D.v (.string x58.low.a),D.v (.string x58.low.d),D.v (.bool x58.high.s),D.v (.string x58.high.a),D.v (.string x58.high.d),D.v (.bool x58.speed.s),D.v (.string x58.speed.a),D.v (.string x58.speed.d),D.v (.bool x58.brake.s),D.v (.string x58.brake.a),D.v (.string x58.brake.d),D.list (List.map rdv x58.shape)] (by first|rfl|omega|(rw [wrap64 _ (by omega) (by omega)];omega)) (Zm hx58) rfl ?_
        refine use (ZaJ [x58.len,x58.low,x58.high,x58.speed,x58.brake] (by intro x hx;simp only [List.mem_cons,List.not_mem_nil,or_false] at hx;rcases hx with rfl|rfl|rfl|rfl|rfl<;>omega) (by simp)) rfl ?_
        refine fork (fun e8=> ?_) (fun e8=> ?_)
        ·have f73:¬ (smallP x58.len∧smallP x58.low∧smallP x58.high∧smallP x58.speed∧smallP x58.brake):=fun hh=>ZbY (smB5.2 hh) (ZcO e8)
         refine⟨by kernel_rfl,?_⟩
         refine⟨fun _=> ?_,fun e=>absurd e (by decide)⟩
         refine Eq.trans (b:=int 1) ?_ rfl
         have hnm:nameOk A.name=true:=Classical.not_not.1 f11
         have h3:¬ 3< A.links.length:=by omega
         have hb:¬ baseBad A:=by
          rintro(h|h|h|h|h)
          ·omega
          ·exact h (Classical.not_not.1 f40).1
          ·exact h (Classical.not_not.1 f40).2.1
          ·exact h (Classical.not_not.1 f40).2.2
          ·first|exact f44 h.1|exact f21 (by rw [h48];exact h.2)
         have hB:linkBad x58:=by
          refine Classical.byContradiction fun hh=> ?_
          simp only [linkBad,not_or,Classical.not_not] at hh
          obtain⟨g1,g2,g3,g4,g5,g6,g7,g8,g9⟩:=hh
          first|exact f73 ⟨g1,g2,g3,g4,g5⟩|exact g6 (by rw [← h76];exact f80)|exact g8 (by rw [← h83];exact f87)|exact g9 (by rw [← h90];exact f94)|exact g7 (by rw [← h97,← h100];exact f103)
         have hE:linkE x58=1:=if_pos hB
         rw [show armE A=1 by
          rw [armE,if_pos hnm,if_neg h3,if_neg hb,← hE]
          exact Zo hx58 h1 (by rw [hE];decide)]
        ·have f73:¬ (¬ (smallP x58.len∧smallP x58.low∧smallP x58.high∧smallP x58.speed∧smallP x58.brake)):=fun hh=>hh (smB5.1 (ZcP e8))
         refine ZC (x:=x58.len) (by omega) fun q76 h76 z76=> ?_
         refine Zat (q:=q76) fun n77 h77=> ?_
         refine fork (fun e9=> ?_) (fun e9=> ?_)
         ·have f80:q76≤0:=(ZN h77).1 (of_decide_eq_true e9)
          refine⟨by kernel_rfl,?_⟩
          refine⟨fun _=> ?_,fun e=>absurd e (by decide)⟩
          refine Eq.trans (b:=int 1) ?_ rfl
          have hnm:nameOk A.name=true:=Classical.not_not.1 f11
          have h3:¬ 3< A.links.length:=by omega
          have hb:¬ baseBad A:=by
           rintro(h|h|h|h|h)
           ·omega
           ·exact h (Classical.not_not.1 f40).1
           ·exact h (Classical.not_not.1 f40).2.1
           ·exact h (Classical.not_not.1 f40).2.2
           ·first|exact f44 h.1|exact f21 (by rw [h48];exact h.2)
          have hB:linkBad x58:=by
           refine Classical.byContradiction fun hh=> ?_
           simp only [linkBad,not_or,Classical.not_not] at hh
           obtain⟨g1,g2,g3,g4,g5,g6,g7,g8,g9⟩:=hh
           first|exact f73 ⟨g1,g2,g3,g4,g5⟩|exact g6 (by rw [← h76];exact f80)|exact g8 (by rw [← h83];exact f87)|exact g9 (by rw [← h90];exact f94)|exact g7 (by rw [← h97,← h100];exact f103)
          have hE:linkE x58=1:=if_pos hB
          rw [show armE A=1 by
           rw [armE,if_pos hnm,if_neg h3,if_neg hb,← hE]
           exact Zo hx58 h1 (by rw [hE];decide)]
         ·have f80:¬ (q76≤0):=fun hh=>of_decide_eq_false e9 ((ZN h77).2 hh)
          refine ZC (x:=x58.speed) (by omega) fun q83 h83 z83=> ?_
          refine Zat (q:=q83) fun n84 h84=> ?_
          refine fork (fun e10=> ?_) (fun e10=> ?_)
          ·have f87:q83≤0:=(ZN h84).1 (of_decide_eq_true e10)
           refine⟨by kernel_rfl,?_⟩
           refine⟨fun _=> ?_,fun e=>absurd e (by decide)⟩
           refine Eq.trans (b:=int 1) ?_ rfl
           have hnm:nameOk A.name=true:=Classical.not_not.1 f11
           have h3:¬ 3< A.links.length:=by omega
           have hb:¬ baseBad A:=by
            rintro(h|h|h|h|h)
            ·omega
            ·exact h (Classical.not_not.1 f40).1
            ·exact h (Classical.not_not.1 f40).2.1
            ·exact h (Classical.not_not.1 f40).2.2
            ·first|exact f44 h.1|exact f21 (by rw [h48];exact h.2)
           have hB:linkBad x58:=by
            refine Classical.byContradiction fun hh=> ?_
            simp only [linkBad,not_or,Classical.not_not] at hh
            obtain⟨g1,g2,g3,g4,g5,g6,g7,g8,g9⟩:=hh
            first|exact f73 ⟨g1,g2,g3,g4,g5⟩|exact g6 (by rw [← h76];exact f80)|exact g8 (by rw [← h83];exact f87)|exact g9 (by rw [← h90];exact f94)|exact g7 (by rw [← h97,← h100];exact f103)
           have hE:linkE x58=1:=if_pos hB
           rw [show armE A=1 by
            rw [armE,if_pos hnm,if_neg h3,if_neg hb,← hE]
            exact Zo hx58 h1 (by rw [hE];decide)]
          ·have f87:¬ (q83≤0):=fun hh=>of_decide_eq_false e10 ((ZN h84).2 hh)
           refine ZC (x:=x58.brake) (by omega) fun q90 h90 z90=> ?_
           refine Zat (q:=q90) fun n91 h91=> ?_
           refine fork (fun e11=> ?_) (fun e11=> ?_)
           ·have f94:q90≤0:=(ZN h91).1 (of_decide_eq_true e11)
            refine⟨by kernel_rfl,?_⟩
            refine⟨fun _=> ?_,fun e=>absurd e (by decide)⟩
            refine Eq.trans (b:=int 1) ?_ rfl
            have hnm:nameOk A.name=true:=Classical.not_not.1 f11
            have h3:¬ 3< A.links.length:=by omega
            have hb:¬ baseBad A:=by
             rintro(h|h|h|h|h)
             ·omega
             ·exact h (Classical.not_not.1 f40).1
             ·exact h (Classical.not_not.1 f40).2.1
             ·exact h (Classical.not_not.1 f40).2.2
             ·first|exact f44 h.1|exact f21 (by rw [h48];exact h.2)
            have hB:linkBad x58:=by
             refine Classical.byContradiction fun hh=> ?_
             simp only [linkBad,not_or,Classical.not_not] at hh
             obtain⟨g1,g2,g3,g4,g5,g6,g7,g8,g9⟩:=hh
             first|exact f73 ⟨g1,g2,g3,g4,g5⟩|exact g6 (by rw [← h76];exact f80)|exact g8 (by rw [← h83];exact f87)|exact g9 (by rw [← h90];exact f94)|exact g7 (by rw [← h97,← h100];exact f103)
            have hE:linkE x58=1:=if_pos hB
            rw [show armE A=1 by
             rw [armE,if_pos hnm,if_neg h3,if_neg hb,← hE]
             exact Zo hx58 h1 (by rw [hE];decide)]
           ·have f94:¬ (q90≤0):=fun hh=>of_decide_eq_false e11 ((ZN h91).2 hh)
            refine ZC (x:=x58.low) (by omega) fun q97 h97 z97=> ?_
            refine ZC (x:=x58.high) (by omega) fun q100 h100 z100=> ?_
            refine Zes (p:=q97) (q:=q100) (by omega) (by omega) fun n101 h101=> ?_
            refine⟨by kernel_rfl,?_⟩
            refine⟨fun e12=> ?_,fun e12=> ?_⟩
            ·have f103:q100≤q97:=(Znq h101).1 (of_decide_eq_true e12)
             refine Eq.trans (b:=int 1) ?_ rfl
             have hnm:nameOk A.name=true:=Classical.not_not.1 f11
             have h3:¬ 3< A.links.length:=by omega
             have hb:¬ baseBad A:=by
              rintro(h|h|h|h|h)
              ·omega
              ·exact h (Classical.not_not.1 f40).1
              ·exact h (Classical.not_not.1 f40).2.1
              ·exact h (Classical.not_not.1 f40).2.2
              ·first|exact f44 h.1|exact f21 (by rw [h48];exact h.2)
             have hB:linkBad x58:=by
              refine Classical.byContradiction fun hh=> ?_
              simp only [linkBad,not_or,Classical.not_not] at hh
              obtain⟨g1,g2,g3,g4,g5,g6,g7,g8,g9⟩:=hh
              first|exact f73 ⟨g1,g2,g3,g4,g5⟩|exact g6 (by rw [← h76];exact f80)|exact g8 (by rw [← h83];exact f87)|exact g9 (by rw [← h90];exact f94)|exact g7 (by rw [← h97,← h100];exact f103)
             have hE:linkE x58=1:=if_pos hB
             rw [show armE A=1 by
              rw [armE,if_pos hnm,if_neg h3,if_neg hb,← hE]
              exact Zo hx58 h1 (by rw [hE];decide)]
            ·have f103:¬ (q100≤q97):=fun hh=>of_decide_eq_false e12 ((Znq h101).2 hh)
             refine ZdK (l:=x58.shape) hs7 (by omega) fun n106 hk_106_1=> ?_
             refine⟨fun e13=> ?_,fun e13=> ?_⟩
             ·have f108:n106≠0:=Zay e13
              refine Eq.trans (b:=int n106) ?_ rfl
              have hnm:nameOk A.name=true:=Classical.not_not.1 f11
              have h3:¬ 3< A.links.length:=by omega
              have hb:¬ baseBad A:=by
               rintro(h|h|h|h|h)
               ·omega
               ·exact h (Classical.not_not.1 f40).1
               ·exact h (Classical.not_not.1 f40).2.1
               ·exact h (Classical.not_not.1 f40).2.2
               ·first|exact f44 h.1|exact f21 (by rw [h48];exact h.2)
              have hsm5:=Classical.not_not.1 f73
              have hB:¬ linkBad x58:=by
               rintro(h|h|h|h|h|h|h|h|h)
               all_goals first|exact h hsm5.1|exact h hsm5.2.1|exact h hsm5.2.2.1|exact h hsm5.2.2.2.1|exact h hsm5.2.2.2.2|exact f80 (by rw [h76];exact h)|exact f87 (by rw [h83];exact h)|exact f94 (by rw [h90];exact h)|exact f103 (by rw [h97,h100];exact h)
              have hE:linkE x58=n106:=by rw [linkE,if_neg hB,if_neg (by rw [← hk_106_1];exact f108),hk_106_1]
              rw [show armE A=n106 by
               rw [armE,if_pos hnm,if_neg h3,if_neg hb,← hE]
               exact Zo hx58 h1 (by rw [hE];exact f108)]
             ·have f108:¬ (n106≠0):=fun hh=>hh (Zaz e13)
              have hLs:(List.map rdv x58.shape).length=x58.shape.length:=List.length_map ..
              refine⟨Nat,fun k=> [(54,.val (.one (.d (.list (List.map lk A.links))))),(55,int ((List.map lk A.links).length:Int)),(56,int (i:Int)),(74,.val (.one (.ptr 5 0))),(75,rat x58.len),(76,q3 q76),(77,int n77),(78,bool (decide (n77≤0))),(81,.val (.one (.ptr 5 9))),(82,rat x58.speed),(83,q3 q83),(84,int n84),(85,bool (decide (n84≤0))),(88,.val (.one (.ptr 5 12))),(89,rat x58.brake),(90,q3 q90),(91,int n91),(92,bool (decide (n91≤0))),(95,.val (.one (.ptr 5 3))),(96,rat x58.low),(97,q3 q97),(98,.val (.one (.ptr 5 6))),(99,rat x58.high),(100,q3 q100),(101,int n101),(102,bool (decide (n101≥0))),(111,.val (.one (.d (.list (List.map rdv x58.shape))))),(112,int ((List.map rdv x58.shape).length:Int)),(113,int (k:Int))],
               fun k=> [(5,.var 49 [.d (.v (.bool x58.len.s)),.d (.v (.string x58.len.a)),.d (.v (.string x58.len.d)),.d (.v (.bool x58.low.s)),.d (.v (.string x58.low.a)),.d (.v (.string x58.low.d)),.d (.v (.bool x58.high.s)),.d (.v (.string x58.high.a)),.d (.v (.string x58.high.d)),.d (.v (.bool x58.speed.s)),.d (.v (.string x58.speed.a)),.d (.v (.string x58.speed.d)),.d (.v (.bool x58.brake.s)),.d (.v (.string x58.brake.a)),.d (.v (.string x58.brake.d)),.d (.list (List.map rdv x58.shape))])],fun k=>k≤x58.shape.length∧∀ (j:Nat) (p:RV×RV),j< k→x58.shape[j]? =some p→smallP p.1∧smallP p.2,fun k=>x58.shape.length - k,0,?_,⟨Nat.zero_le _,fun j p h=>absurd h (Nat.not_lt_zero _)⟩,fun k hs=> ?_⟩
              ·constructor<;>(repeat' (first|exact rfl|exact True.intro|exact⟨_,_,rfl⟩|exact(by decide)|apply And.intro))
               all_goals first|exact congrArg (fun n:Int=>D.v (.int .i64 n)) (by omega)|exact congrArg (fun n:Int=>D.v (.int .i64 n)) (by rw [wrap64 _ (by omega) (by omega)];omega)|(simp;done)
              obtain⟨hk,h2⟩:=hs
              refine⟨fun e14=> ?_,fun e14=> ?_⟩
              ·have f114:(k:Int)< ((List.map rdv x58.shape).length:Int):=of_decide_eq_true e14
               obtain⟨x115,hx115⟩:∃ vv,x58.shape[k]? =some vv:=⟨_,List.getElem?_eq_getElem (by first|omega|exact Nat.mod_lt _ (by omega))⟩
               have hzx115:=hs7 x115 (List.mem_of_getElem? hx115)
               refine k_ix k [D.v (.bool x115.1.s),D.v (.string x115.1.a),D.v (.string x115.1.d),D.v (.bool x115.2.s),D.v (.string x115.2.a),D.v (.string x115.2.d)] (by first|rfl|omega|(rw [wrap64 _ (by omega) (by omega)];omega)) (Zm hx115) rfl ?_
               refine use (ZaJ [x115.1,x115.2] (by intro x hx;simp only [List.mem_cons,List.not_mem_nil,or_false] at hx;rcases hx with rfl|rfl<;>omega) (by simp)) rfl ?_
               refine⟨fun e15=> ?_,fun e15=> ?_⟩
               ·have f123:¬ (smallP x115.1∧smallP x115.2):=fun hh=>ZbY (smB2.2 hh) (ZcO e15)
                refine Eq.trans (b:=int 1) ?_ rfl
                have hnm:nameOk A.name=true:=Classical.not_not.1 f11
                have h3:¬ 3< A.links.length:=by omega
                have hb:¬ baseBad A:=by
                 rintro(h|h|h|h|h)
                 ·omega
                 ·exact h (Classical.not_not.1 f40).1
                 ·exact h (Classical.not_not.1 f40).2.1
                 ·exact h (Classical.not_not.1 f40).2.2
                 ·first|exact f44 h.1|exact f21 (by rw [h48];exact h.2)
                have hsm5:=Classical.not_not.1 f73
                have hB:¬ linkBad x58:=by
                 rintro(h|h|h|h|h|h|h|h|h)
                 all_goals first|exact h hsm5.1|exact h hsm5.2.1|exact h hsm5.2.2.1|exact h hsm5.2.2.2.1|exact h hsm5.2.2.2.2|exact f80 (by rw [h76];exact h)|exact f87 (by rw [h83];exact h)|exact f94 (by rw [h90];exact h)|exact f103 (by rw [h97,h100];exact h)
                have hc0:convE 8 x58.shape=0:=by rw [← hk_106_1];exact Classical.not_not.1 f108
                have hE:linkE x58=1:=by rw [linkE,if_neg hB,if_pos hc0,if_pos ⟨x115,List.mem_of_getElem? hx115,f123⟩]
                rw [show armE A=1 by
                 rw [armE,if_pos hnm,if_neg h3,if_neg hb,← hE]
                 exact Zo hx58 h1 (by rw [hE];decide)]
               ·have f123:¬ (¬ (smallP x115.1∧smallP x115.2)):=fun hh=>hh (smB2.1 (ZcP e15))
                refine⟨k+1,⟨by omega,fun j c g hc=>by
                 by_cases e:j=k
                 ·subst e;rw [hx115] at hc;obtain rfl:=Option.some.inj hc;exact Classical.not_not.1 f123
                 ·exact h2 j c (by omega) hc⟩,by simp only;omega,?_⟩
                constructor<;>(repeat' (first|exact rfl|exact True.intro|apply And.intro))
                all_goals first
                 |exact congrArg (fun n:Int=>D.v (.int .i64 n)) (by rw [wrap64 _ (by omega) (by omega)];omega)
                 |exact congrArg (fun n:Int=>D.v (.int .i64 n)) (by omega)
              ·have f114:¬ ((k:Int)< ((List.map rdv x58.shape).length:Int)):=of_decide_eq_false e14
               have hsm5:=Classical.not_not.1 f73
               have hB:¬ linkBad x58:=by
                rintro(h|h|h|h|h|h|h|h|h)
                all_goals first|exact h hsm5.1|exact h hsm5.2.1|exact h hsm5.2.2.1|exact h hsm5.2.2.2.1|exact h hsm5.2.2.2.2|exact f80 (by rw [h76];exact h)|exact f87 (by rw [h83];exact h)|exact f94 (by rw [h90];exact h)|exact f103 (by rw [h97,h100];exact h)
               have hc0:convE 8 x58.shape=0:=by rw [← hk_106_1];exact Classical.not_not.1 f108
               have hlink:linkE x58=0:=by
                rw [linkE,if_neg hB,if_pos hc0,if_neg]
                rintro⟨q,hq,hh⟩
                obtain⟨j,hj⟩:=List.mem_iff_getElem?.1 hq
                exact hh (h2 j q (by have:=(List.getElem?_eq_some_iff.1 hj).1;omega) hj)
               refine⟨i+1,⟨by omega,fun j c g hc=>by
                by_cases e:j=i
                ·subst e;rw [hx58] at hc;obtain rfl:=Option.some.inj hc;exact hlink
                ·exact h1 j c (by omega) hc⟩,by simp only;omega,?_⟩
               constructor<;>(repeat' (first|exact rfl|exact True.intro|apply And.intro))
               all_goals first
                |exact congrArg (fun n:Int=>D.v (.int .i64 n)) (by rw [wrap64 _ (by omega) (by omega)];omega)
                |exact congrArg (fun n:Int=>D.v (.int .i64 n)) (by omega)
       ·have f57:¬ ((i:Int)< ((List.map lk A.links).length:Int)):=of_decide_eq_false e7
        refine Eq.trans (b:=int 0) ?_ rfl
        have hnm:nameOk A.name=true:=Classical.not_not.1 f11
        have h3:¬ 3< A.links.length:=by omega
        have hb:¬ baseBad A:=by
         rintro(h|h|h|h|h)
         ·omega
         ·exact h (Classical.not_not.1 f40).1
         ·exact h (Classical.not_not.1 f40).2.1
         ·exact h (Classical.not_not.1 f40).2.2
         ·first|exact f44 h.1|exact f21 (by rw [h48];exact h.2)
        rw [show armE A=0 by
         rw [armE,if_pos hnm,if_neg h3,if_neg hb]
         exact Zct fun j m hm=>h1 j m (by have:=(List.getElem?_eq_some_iff.1 hm).1;omega) hm]
     ·have f44:¬ (A.bh=true):=fun hh=>ZbY hh e5
      refine⟨fun e=>absurd e (by decide),fun _=> ?_⟩
      refine⟨Nat,fun i=> [(54,.val (.one (.d (.list (List.map lk A.links))))),(55,int ((List.map lk A.links).length:Int)),(56,int (i:Int))],
       fun i=> [],fun i=>i≤A.links.length∧∀ (j:Nat) (m:LinkV),j< i→A.links[j]? =some m→linkE m=0,fun i=>A.links.length - i,0,?_,⟨Nat.zero_le _,fun j m h=>absurd h (Nat.not_lt_zero _)⟩,fun i hs=> ?_⟩
      ·constructor<;>(repeat' (first|exact rfl|exact True.intro|exact⟨_,_,rfl⟩|exact(by decide)|apply And.intro))
       all_goals first|exact congrArg (fun n:Int=>D.v (.int .i64 n)) (by omega)|exact congrArg (fun n:Int=>D.v (.int .i64 n)) (by rw [wrap64 _ (by omega) (by omega)];omega)|(simp;done)
      obtain⟨hi,h1⟩:=hs
      refine⟨fun e16=> ?_,fun e16=> ?_⟩
      ·have f57:(i:Int)< ((List.map lk A.links).length:Int):=of_decide_eq_true e16
       obtain⟨x58,hx58⟩:∃ vv,A.links[i]? =some vv:=⟨_,List.getElem?_eq_getElem (by first|omega|exact Nat.mod_lt _ (by omega))⟩
       obtain⟨hs1,hs2,hs3,hs4,hs5,hs6,hs7⟩:=z6 x58 (List.mem_of_getElem? hx58)
       refine k_ix i [D.v (.bool x58.len.s),D.v (.string x58.len.a),D.v (.string x58.len.d),D.v (.bool x58.low.s),D.v (.string x58.low.a),D.v (.string x58.low.d),D.v (.bool x58.high.s),D.v (.string x58.high.a),D.v (.string x58.high.d),D.v (.bool x58.speed.s),D.v (.string x58.speed.a),D.v (.string x58.speed.d),D.v (.bool x58.brake.s),D.v (.string x58.brake.a),D.v (.string x58.brake.d),D.list (List.map rdv x58.shape)] (by first|rfl|omega|(rw [wrap64 _ (by omega) (by omega)];omega)) (Zm hx58) rfl ?_
       refine use (ZaJ [x58.len,x58.low,x58.high,x58.speed,x58.brake] (by intro x hx;simp only [List.mem_cons,List.not_mem_nil,or_false] at hx;rcases hx with rfl|rfl|rfl|rfl|rfl<;>omega) (by simp)) rfl ?_
       refine fork (fun e17=> ?_) (fun e17=> ?_)
       ·have f73:¬ (smallP x58.len∧smallP x58.low∧smallP x58.high∧smallP x58.speed∧smallP x58.brake):=fun hh=>ZbY (smB5.2 hh) (ZcO e17)
        refine⟨by kernel_rfl,?_⟩
        refine⟨fun _=> ?_,fun e=>absurd e (by decide)⟩
        refine Eq.trans (b:=int 1) ?_ rfl
        have hnm:nameOk A.name=true:=Classical.not_not.1 f11
        have h3:¬ 3< A.links.length:=by omega
        have hb:¬ baseBad A:=by
         rintro(h|h|h|h|h)
         ·omega
         ·exact h (Classical.not_not.1 f40).1
         ·exact h (Classical.not_not.1 f40).2.1
         ·exact h (Classical.not_not.1 f40).2.2
         ·first|exact f44 h.1|exact f21 (by rw [h48];exact h.2)
        have hB:linkBad x58:=by
         refine Classical.byContradiction fun hh=> ?_
         simp only [linkBad,not_or,Classical.not_not] at hh
         obtain⟨g1,g2,g3,g4,g5,g6,g7,g8,g9⟩:=hh
         first|exact f73 ⟨g1,g2,g3,g4,g5⟩|exact g6 (by rw [← h76];exact f80)|exact g8 (by rw [← h83];exact f87)|exact g9 (by rw [← h90];exact f94)|exact g7 (by rw [← h97,← h100];exact f103)
        have hE:linkE x58=1:=if_pos hB
        rw [show armE A=1 by
         rw [armE,if_pos hnm,if_neg h3,if_neg hb,← hE]
         exact Zo hx58 h1 (by rw [hE];decide)]
       ·have f73:¬ (¬ (smallP x58.len∧smallP x58.low∧smallP x58.high∧smallP x58.speed∧smallP x58.brake)):=fun hh=>hh (smB5.1 (ZcP e17))
        refine ZC (x:=x58.len) (by omega) fun q76 h76 z76=> ?_
        refine Zat (q:=q76) fun n77 h77=> ?_
        refine fork (fun e18=> ?_) (fun e18=> ?_)
        ·have f80:q76≤0:=(ZN h77).1 (of_decide_eq_true e18)
         refine⟨by kernel_rfl,?_⟩
         refine⟨fun _=> ?_,fun e=>absurd e (by decide)⟩
         refine Eq.trans (b:=int 1) ?_ rfl
         have hnm:nameOk A.name=true:=Classical.not_not.1 f11
         have h3:¬ 3< A.links.length:=by omega
         have hb:¬ baseBad A:=by
          rintro(h|h|h|h|h)
          ·omega
          ·exact h (Classical.not_not.1 f40).1
          ·exact h (Classical.not_not.1 f40).2.1
          ·exact h (Classical.not_not.1 f40).2.2
          ·first|exact f44 h.1|exact f21 (by rw [h48];exact h.2)
         have hB:linkBad x58:=by
          refine Classical.byContradiction fun hh=> ?_
          simp only [linkBad,not_or,Classical.not_not] at hh
          obtain⟨g1,g2,g3,g4,g5,g6,g7,g8,g9⟩:=hh
          first|exact f73 ⟨g1,g2,g3,g4,g5⟩|exact g6 (by rw [← h76];exact f80)|exact g8 (by rw [← h83];exact f87)|exact g9 (by rw [← h90];exact f94)|exact g7 (by rw [← h97,← h100];exact f103)
         have hE:linkE x58=1:=if_pos hB
         rw [show armE A=1 by
          rw [armE,if_pos hnm,if_neg h3,if_neg hb,← hE]
          exact Zo hx58 h1 (by rw [hE];decide)]
        ·have f80:¬ (q76≤0):=fun hh=>of_decide_eq_false e18 ((ZN h77).2 hh)
         refine ZC (x:=x58.speed) (by omega) fun q83 h83 z83=> ?_
         refine Zat (q:=q83) fun n84 h84=> ?_
         refine fork (fun e19=> ?_) (fun e19=> ?_)
         ·have f87:q83≤0:=(ZN h84).1 (of_decide_eq_true e19)
          refine⟨by kernel_rfl,?_⟩
          refine⟨fun _=> ?_,fun e=>absurd e (by decide)⟩
          refine Eq.trans (b:=int 1) ?_ rfl
          have hnm:nameOk A.name=true:=Classical.not_not.1 f11
          have h3:¬ 3< A.links.length:=by omega
          have hb:¬ baseBad A:=by
           rintro(h|h|h|h|h)
           ·omega
           ·exact h (Classical.not_not.1 f40).1
           ·exact h (Classical.not_not.1 f40).2.1
           ·exact h (Classical.not_not.1 f40).2.2
           ·first|exact f44 h.1|exact f21 (by rw [h48];exact h.2)
          have hB:linkBad x58:=by
           refine Classical.byContradiction fun hh=> ?_
           simp only [linkBad,not_or,Classical.not_not] at hh
           obtain⟨g1,g2,g3,g4,g5,g6,g7,g8,g9⟩:=hh
           first|exact f73 ⟨g1,g2,g3,g4,g5⟩|exact g6 (by rw [← h76];exact f80)|exact g8 (by rw [← h83];exact f87)|exact g9 (by rw [← h90];exact f94)|exact g7 (by rw [← h97,← h100];exact f103)
          have hE:linkE x58=1:=if_pos hB
          rw [show armE A=1 by
           rw [armE,if_pos hnm,if_neg h3,if_neg hb,← hE]
           exact Zo hx58 h1 (by rw [hE];decide)]
         ·have f87:¬ (q83≤0):=fun hh=>of_decide_eq_false e19 ((ZN h84).2 hh)
          refine ZC (x:=x58.brake) (by omega) fun q90 h90 z90=> ?_
          refine Zat (q:=q90) fun n91 h91=> ?_
          refine fork (fun e20=> ?_) (fun e20=> ?_)
          ·have f94:q90≤0:=(ZN h91).1 (of_decide_eq_true e20)
           refine⟨by kernel_rfl,?_⟩
           refine⟨fun _=> ?_,fun e=>absurd e (by decide)⟩
           refine Eq.trans (b:=int 1) ?_ rfl
           have hnm:nameOk A.name=true:=Classical.not_not.1 f11
           have h3:¬ 3< A.links.length:=by omega
           have hb:¬ baseBad A:=by
            rintro(h|h|h|h|h)
            ·omega
            ·exact h (Classical.not_not.1 f40).1
            ·exact h (Classical.not_not.1 f40).2.1
            ·exact h (Classical.not_not.1 f40).2.2
            ·first|exact f44 h.1|exact f21 (by rw [h48];exact h.2)
           have hB:linkBad x58:=by
            refine Classical.byContradiction fun hh=> ?_
            simp only [linkBad,not_or,Classical.not_not] at hh
            obtain⟨g1,g2,g3,g4,g5,g6,g7,g8,g9⟩:=hh
            first|exact f73 ⟨g1,g2,g3,g4,g5⟩|exact g6 (by rw [← h76];exact f80)|exact g8 (by rw [← h83];exact f87)|exact g9 (by rw [← h90];exact f94)|exact g7 (by rw [← h97,← h100];exact f103)
           have hE:linkE x58=1:=if_pos hB
           rw [show armE A=1 by
            rw [armE,if_pos hnm,if_neg h3,if_neg hb,← hE]
            exact Zo hx58 h1 (by rw [hE];decide)]
          ·have f94:¬ (q90≤0):=fun hh=>of_decide_eq_false e20 ((ZN h91).2 hh)
           refine ZC (x:=x58.low) (by omega) fun q97 h97 z97=> ?_
           refine ZC (x:=x58.high) (by omega) fun q100 h100 z100=> ?_
           refine Zes (p:=q97) (q:=q100) (by omega) (by omega) fun n101 h101=> ?_
           refine⟨by kernel_rfl,?_⟩
           refine⟨fun e21=> ?_,fun e21=> ?_⟩
           ·have f103:q100≤q97:=(Znq h101).1 (of_decide_eq_true e21)
            refine Eq.trans (b:=int 1) ?_ rfl
            have hnm:nameOk A.name=true:=Classical.not_not.1 f11
            have h3:¬ 3< A.links.length:=by omega
            have hb:¬ baseBad A:=by
             rintro(h|h|h|h|h)
             ·omega
             ·exact h (Classical.not_not.1 f40).1
             ·exact h (Classical.not_not.1 f40).2.1
             ·exact h (Classical.not_not.1 f40).2.2
             ·first|exact f44 h.1|exact f21 (by rw [h48];exact h.2)
            have hB:linkBad x58:=by
             refine Classical.byContradiction fun hh=> ?_
             simp only [linkBad,not_or,Classical.not_not] at hh
             obtain⟨g1,g2,g3,g4,g5,g6,g7,g8,g9⟩:=hh
             first|exact f73 ⟨g1,g2,g3,g4,g5⟩|exact g6 (by rw [← h76];exact f80)|exact g8 (by rw [← h83];exact f87)|exact g9 (by rw [← h90];exact f94)|exact g7 (by rw [← h97,← h100];exact f103)
            have hE:linkE x58=1:=if_pos hB
            rw [show armE A=1 by
             rw [armE,if_pos hnm,if_neg h3,if_neg hb,← hE]
             exact Zo hx58 h1 (by rw [hE];decide)]
           ·have f103:¬ (q100≤q97):=fun hh=>of_decide_eq_false e21 ((Znq h101).2 hh)
            refine ZdK (l:=x58.shape) hs7 (by omega) fun n106 hk_106_1=> ?_
            refine⟨fun e22=> ?_,fun e22=> ?_⟩
            ·have f108:n106≠0:=Zay e22
             refine Eq.trans (b:=int n106) ?_ rfl
             have hnm:nameOk A.name=true:=Classical.not_not.1 f11
             have h3:¬ 3< A.links.length:=by omega
             have hb:¬ baseBad A:=by
              rintro(h|h|h|h|h)
              ·omega
              ·exact h (Classical.not_not.1 f40).1
              ·exact h (Classical.not_not.1 f40).2.1
              ·exact h (Classical.not_not.1 f40).2.2
              ·first|exact f44 h.1|exact f21 (by rw [h48];exact h.2)
             have hsm5:=Classical.not_not.1 f73
             have hB:¬ linkBad x58:=by
              rintro(h|h|h|h|h|h|h|h|h)
              all_goals first|exact h hsm5.1|exact h hsm5.2.1|exact h hsm5.2.2.1|exact h hsm5.2.2.2.1|exact h hsm5.2.2.2.2|exact f80 (by rw [h76];exact h)|exact f87 (by rw [h83];exact h)|exact f94 (by rw [h90];exact h)|exact f103 (by rw [h97,h100];exact h)
             have hE:linkE x58=n106:=by rw [linkE,if_neg hB,if_neg (by rw [← hk_106_1];exact f108),hk_106_1]
             rw [show armE A=n106 by
              rw [armE,if_pos hnm,if_neg h3,if_neg hb,← hE]
              exact Zo hx58 h1 (by rw [hE];exact f108)]
            ·have f108:¬ (n106≠0):=fun hh=>hh (Zaz e22)
             have hLs:(List.map rdv x58.shape).length=x58.shape.length:=List.length_map ..
             refine⟨Nat,fun k=> [(54,.val (.one (.d (.list (List.map lk A.links))))),(55,int ((List.map lk A.links).length:Int)),(56,int (i:Int)),(74,.val (.one (.ptr 5 0))),(75,rat x58.len),(76,q3 q76),(77,int n77),(78,bool (decide (n77≤0))),(81,.val (.one (.ptr 5 9))),(82,rat x58.speed),(83,q3 q83),(84,int n84),(85,bool (decide (n84≤0))),(88,.val (.one (.ptr 5 12))),(89,rat x58.brake),(90,q3 q90),(91,int n91),(92,bool (decide (n91≤0))),(95,.val (.one (.ptr 5 3))),(96,rat x58.low),(97,q3 q97),(98,.val (.one (.ptr 5 6))),(99,rat x58.high),(100,q3 q100),(101,int n101),(102,bool (decide (n101≥0))),(111,.val (.one (.d (.list (List.map rdv x58.shape))))),(112,int ((List.map rdv x58.shape).length:Int)),(113,int (k:Int))],
              fun k=> [(5,.var 49 [.d (.v (.bool x58.len.s)),.d (.v (.string x58.len.a)),.d (.v (.string x58.len.d)),.d (.v (.bool x58.low.s)),.d (.v (.string x58.low.a)),.d (.v (.string x58.low.d)),.d (.v (.bool x58.high.s)),.d (.v (.string x58.high.a)),.d (.v (.string x58.high.d)),.d (.v (.bool x58.speed.s)),.d (.v (.string x58.speed.a)),.d (.v (.string x58.speed.d)),.d (.v (.bool x58.brake.s)),.d (.v (.string x58.brake.a)),.d (.v (.string x58.brake.d)),.d (.list (List.map rdv x58.shape))])],fun k=>k≤x58.shape.length∧∀ (j:Nat) (p:RV×RV),j< k→x58.shape[j]? =some p→smallP p.1∧smallP p.2,fun k=>x58.shape.length - k,0,?_,⟨Nat.zero_le _,fun j p h=>absurd h (Nat.not_lt_zero _)⟩,fun k hs=> ?_⟩
             ·constructor<;>(repeat' (first|exact rfl|exact True.intro|exact⟨_,_,rfl⟩|exact(by decide)|apply And.intro))
              all_goals first|exact congrArg (fun n:Int=>D.v (.int .i64 n)) (by omega)|exact congrArg (fun n:Int=>D.v (.int .i64 n)) (by rw [wrap64 _ (by omega) (by omega)];omega)|(simp;done)
             obtain⟨hk,h2⟩:=hs
             refine⟨fun e23=> ?_,fun e23=> ?_⟩
             ·have f114:(k:Int)< ((List.map rdv x58.shape).length:Int):=of_decide_eq_true e23
              obtain⟨x115,hx115⟩:∃ vv,x58.shape[k]? =some vv:=⟨_,List.getElem?_eq_getElem (by first|omega|exact Nat.mod_lt _ (by omega))⟩
              have hzx115:=hs7 x115 (List.mem_of_getElem? hx115)
              refine k_ix k [D.v (.bool x115.1.s),D.v (.string x115.1.a),D.v (.string x115.1.d),D.v (.bool x115.2.s),D.v (.string x115.2.a),D.v (.string x115.2.d)] (by first|rfl|omega|(rw [wrap64 _ (by omega) (by omega)];omega)) (Zm hx115) rfl ?_
              refine use (ZaJ [x115.1,x115.2] (by intro x hx;simp only [List.mem_cons,List.not_mem_nil,or_false] at hx;rcases hx with rfl|rfl<;>omega) (by simp)) rfl ?_
              refine⟨fun e24=> ?_,fun e24=> ?_⟩
              ·have f123:¬ (smallP x115.1∧smallP x115.2):=fun hh=>ZbY (smB2.2 hh) (ZcO e24)
               refine Eq.trans (b:=int 1) ?_ rfl
               have hnm:nameOk A.name=true:=Classical.not_not.1 f11
               have h3:¬ 3< A.links.length:=by omega
               have hb:¬ baseBad A:=by
                rintro(h|h|h|h|h)
                ·omega
                ·exact h (Classical.not_not.1 f40).1
                ·exact h (Classical.not_not.1 f40).2.1
                ·exact h (Classical.not_not.1 f40).2.2
                ·first|exact f44 h.1|exact f21 (by rw [h48];exact h.2)
               have hsm5:=Classical.not_not.1 f73
               have hB:¬ linkBad x58:=by
                rintro(h|h|h|h|h|h|h|h|h)
                all_goals first|exact h hsm5.1|exact h hsm5.2.1|exact h hsm5.2.2.1|exact h hsm5.2.2.2.1|exact h hsm5.2.2.2.2|exact f80 (by rw [h76];exact h)|exact f87 (by rw [h83];exact h)|exact f94 (by rw [h90];exact h)|exact f103 (by rw [h97,h100];exact h)
               have hc0:convE 8 x58.shape=0:=by rw [← hk_106_1];exact Classical.not_not.1 f108
               have hE:linkE x58=1:=by rw [linkE,if_neg hB,if_pos hc0,if_pos ⟨x115,List.mem_of_getElem? hx115,f123⟩]
               rw [show armE A=1 by
                rw [armE,if_pos hnm,if_neg h3,if_neg hb,← hE]
                exact Zo hx58 h1 (by rw [hE];decide)]
              ·have f123:¬ (¬ (smallP x115.1∧smallP x115.2)):=fun hh=>hh (smB2.1 (ZcP e24))
               refine⟨k+1,⟨by omega,fun j c g hc=>by
                by_cases e:j=k
                ·subst e;rw [hx115] at hc;obtain rfl:=Option.some.inj hc;exact Classical.not_not.1 f123
                ·exact h2 j c (by omega) hc⟩,by simp only;omega,?_⟩
               constructor<;>(repeat' (first|exact rfl|exact True.intro|apply And.intro))
               all_goals first
                |exact congrArg (fun n:Int=>D.v (.int .i64 n)) (by rw [wrap64 _ (by omega) (by omega)];omega)
                |exact congrArg (fun n:Int=>D.v (.int .i64 n)) (by omega)
             ·have f114:¬ ((k:Int)< ((List.map rdv x58.shape).length:Int)):=of_decide_eq_false e23
              have hsm5:=Classical.not_not.1 f73
              have hB:¬ linkBad x58:=by
               rintro(h|h|h|h|h|h|h|h|h)
               all_goals first|exact h hsm5.1|exact h hsm5.2.1|exact h hsm5.2.2.1|exact h hsm5.2.2.2.1|exact h hsm5.2.2.2.2|exact f80 (by rw [h76];exact h)|exact f87 (by rw [h83];exact h)|exact f94 (by rw [h90];exact h)|exact f103 (by rw [h97,h100];exact h)
              have hc0:convE 8 x58.shape=0:=by rw [← hk_106_1];exact Classical.not_not.1 f108
              have hlink:linkE x58=0:=by
               rw [linkE,if_neg hB,if_pos hc0,if_neg]
               rintro⟨q,hq,hh⟩
               obtain⟨j,hj⟩:=List.mem_iff_getElem?.1 hq
               exact hh (h2 j q (by have:=(List.getElem?_eq_some_iff.1 hj).1;omega) hj)
              refine⟨i+1,⟨by omega,fun j c g hc=>by
               by_cases e:j=i
               ·subst e;rw [hx58] at hc;obtain rfl:=Option.some.inj hc;exact hlink
               ·exact h1 j c (by omega) hc⟩,by simp only;omega,?_⟩
              constructor<;>(repeat' (first|exact rfl|exact True.intro|apply And.intro))
              all_goals first
               |exact congrArg (fun n:Int=>D.v (.int .i64 n)) (by rw [wrap64 _ (by omega) (by omega)];omega)
               |exact congrArg (fun n:Int=>D.v (.int .i64 n)) (by omega)
      ·have f57:¬ ((i:Int)< ((List.map lk A.links).length:Int)):=of_decide_eq_false e16
       refine Eq.trans (b:=int 0) ?_ rfl
       have hnm:nameOk A.name=true:=Classical.not_not.1 f11
       have h3:¬ 3< A.links.length:=by omega
       have hb:¬ baseBad A:=by
        rintro(h|h|h|h|h)
        ·omega
        ·exact h (Classical.not_not.1 f40).1
        ·exact h (Classical.not_not.1 f40).2.1
        ·exact h (Classical.not_not.1 f40).2.2
        ·first|exact f44 h.1|exact f21 (by rw [h48];exact h.2)
       rw [show armE A=0 by
        rw [armE,if_pos hnm,if_neg h3,if_neg hb]
        exact Zct fun j m hm=>h1 j m (by have:=(List.getElem?_eq_some_iff.1 hm).1;omega) hm]
theorem Zjj {A:ArmV} (hA:A.ok) (k:∀ n,n=armE A→K (int n)):Ask 73 [.val (.agg [.d (.v (.string A.name)),.d (.v (.bool A.bx.s)),.d (.v (.string A.bx.a)),.d (.v (.string A.bx.d)),.d (.v (.bool A.by'.s)),.d (.v (.string A.by'.a)),.d (.v (.string A.by'.d)),.d (.v (.bool (A.bh))),.d (.v (.bool A.bt.s)),.d (.v (.string A.bt.a)),.d (.v (.string A.bt.d)),.d (.list (List.map lk A.links))])] K:=use (Zfv A hA) rfl (k _ rfl)
theorem Zft (A:ArmV) (n:Int) (hA:A.ok):Spec Tryz.prog Tab 41 [.val (.agg [.d (.v (.string A.name)),.d (.v (.bool A.bx.s)),.d (.v (.string A.bx.a)),.d (.v (.string A.bx.d)),.d (.v (.bool A.by'.s)),.d (.v (.string A.by'.a)),.d (.v (.string A.by'.d)),.d (.v (.bool (A.bh))),.d (.v (.bool A.bt.s)),.d (.v (.string A.bt.a)),.d (.v (.string A.bt.d)),.d (.list (List.map lk A.links))]),int n] (int (hasE A n)):=by
 have hA2:=hA
 obtain⟨z1,z2,z3,z4,z5,z6⟩:=hA
 have hL:(List.map lk A.links).length=A.links.length:=List.length_map ..
 refine Zf Tryz.func41 rfl rfl Tryz.ntmps41 rfl (by kernel_rfl) rfl rfl ?_
 refine Zjj (A:=A) (by assumption) fun n7 hk_7_1=> ?_
 refine fork (fun e1=> ?_) (fun e1=> ?_)
 ·have f10:n7=0:=Zjw e1
  refine⟨fun e2=> ?_,fun e2=> ?_⟩
  ·have f16:n≠((List.map lk A.links).length:Int):=Zay e2
   refine Eq.trans (b:=int 1) ?_ rfl
   have h0:armE A=0:=by rw [← hk_7_1];exact f10
   rw [show hasE A n=1 by rw [hasE,if_pos h0,if_neg (by rw [← hL];exact f16)]]
  ·have f16:¬ (n≠((List.map lk A.links).length:Int)):=fun hh=>hh (Zaz e2)
   refine Eq.trans (b:=int n7) ?_ rfl
   have h0:armE A=0:=by rw [← hk_7_1];exact f10
   rw [show hasE A n=n7 by rw [hasE,if_pos h0,if_pos (by rw [← hL];exact Classical.not_not.1 f16),f10]]
 ·have f10:¬ (n7=0):=Zjx e1
  refine⟨fun e=>absurd e (by decide),fun _=> ?_⟩
  refine Eq.trans (b:=int n7) ?_ rfl
  rw [show hasE A n=n7 by rw [hasE,if_neg (by rw [← hk_7_1];exact f10),hk_7_1]]
theorem Zji {A:ArmV} {n:Int} (hA:A.ok) (k:∀ m,m=hasE A n→K (int m)):Ask 41 [.val (.agg [.d (.v (.string A.name)),.d (.v (.bool A.bx.s)),.d (.v (.string A.bx.a)),.d (.v (.string A.bx.d)),.d (.v (.bool A.by'.s)),.d (.v (.string A.by'.a)),.d (.v (.string A.by'.d)),.d (.v (.bool (A.bh))),.d (.v (.bool A.bt.s)),.d (.v (.string A.bt.a)),.d (.v (.string A.bt.d)),.d (.list (List.map lk A.links))]),int n] K:=use (Zft A n hA) rfl (k _ rfl)
end
end Go.Proofs.YtjlhknppkodilaaGreatDoor.eng
