/- Joined by wip/bundle.py: XPrf0 XProfR. -/
import Derived.Test.YtjlhknppkodilaaGreatDoorGrpO
import Derived.Test.YtjlhknppkodilaaGreatDoorWg
import Derived.Test.YtjlhknppkodilaaGreatDoorGrpTm
set_option maxRecDepth 100000
namespace Go.Proofs.YtjlhknppkodilaaGreatDoor.prf
open Go.Proofs.YtjlhknppkodilaaGreatDoor.eng Go.RowKit num mem seg q held ratA ratB ratC ratD ratE vars ratF
theorem get_ex {α:Type} {l:List α} {i:Nat} (h:i< l.length) {G:Prop} (k:∀ x,l[i]? =some x→G):G:=k _ (List.getElem?_eq_getElem h)
theorem c3_lt {n:Int} {p q:Rat} (h:n=sgnQ (p - q)):n< 0↔p< q:=(Zdy h).trans ⟨fun h=>by grind,fun h=>by grind⟩
end Go.Proofs.YtjlhknppkodilaaGreatDoor.prf
namespace Go.Proofs.YtjlhknppkodilaaGreatDoor.eng
open Go.RowKit num mem seg q held ratA ratB ratC ratD ratE vars ratF trq prf
section
variable {K : AV → Prop}
theorem ZkF {f:Rat→List D} (l:List Rat) (q:Rat):List.map f (l++ [q])=List.map f l++ [f q]:=by rw [List.map_append];rfl
theorem ZeB {s a:Rat} {n i:Nat} (h:i< n):(capsL s a n).take (i+1)=(capsL s a n).take i++ [capQ s a n (i+1)]:=by rw [List.take_add_one,ZbO h];rfl
def chR (f s a:Rat) (n i:Nat):List Rat:=(chL f s a n).take i++(capsL s a n).drop i
theorem Zfo (f s a:Rat) {n i:Nat} (h:i≤n):(chR f s a n i).length=n:=by
 unfold chR;rw [List.length_append,List.length_take,List.length_drop,Zbl,Zw];omega
theorem ZpR (f s a:Rat) (n:Nat):capsL s a n=chR f s a n 0:=by unfold chR;simp
theorem ZpQ (f s a:Rat) (n:Nat):chR f s a n n=chL f s a n:=by
 unfold chR;rw [List.take_of_length_le (by rw [Zbl];omega),List.drop_of_length_le (by rw [Zw];omega),List.append_nil]
theorem ZlZ {f s a:Rat} {n i:Nat} (h:i< n):(chR f s a n i)[i]? =some (capQ s a n (i+1)):=by
 unfold chR
 rw [List.getElem?_append_right (by rw [List.length_take];omega),List.length_take,Zbl,Nat.min_eq_left (by omega),Nat.sub_self,List.getElem?_drop,Nat.add_zero,ZbO h]
theorem ZlY {f s a q:Rat} {n i:Nat} (h:i< n) (hq:q=f / sumL (capsL s a n)*capQ s a n (i+1)):(chR f s a n i).set i q=chR f s a n (i+1):=by
 have hl:((chL f s a n).take i).length=i:=by rw [List.length_take,Zbl];omega
 unfold chR
 rw [List.set_append,hl,if_neg (Nat.lt_irrefl _),Nat.sub_self,Zfp h,← hq,List.drop_eq_getElem_cons (by rw [Zw];exact h),List.set_cons_zero,List.append_assoc]
 rfl
theorem ZnY {f s a:Rat} {n i:Nat} (hn:n≤50) (hi:i< n) {x:Rat} (hx:(chR f s a n i)[i]? =some x):qs x≤qs s+qs a+8:=by
 rw [ZlZ hi] at hx
 obtain rfl:=Option.some.inj hx
 exact Zn0 s a n (i+1) (by omega) (by omega)
set_option maxHeartbeats 2000000 in
theorem Zju (n:Nat) (s a:Rat) (hn:n≤50) (hS:qs s≤2097152) (hA:qs a≤2097152):Spec Tryz.prog Tab 44 [int (n:Int),q3 s,q3 a] (.val (.one (.d (.list (List.map q3d (capsL s a n)))))):=by
 refine Zf Tryz.func44 rfl rfl Tryz.ntmps44 rfl (by kernel_rfl) rfl rfl ?_
 refine⟨Nat,fun i=> [(0,int (n:Int)),(4,.val (.one (.ptr 4 0))),(5,.val (.one (.ptr 5 0))),(7,.val (.one (.row 26 0))),(8,int ((i:Int)+1))],
  fun i=> [(4,.var 65 [.d (.v (.bool (decide (s.num< 0)))),.d (.list (W (w32 s.num.natAbs))),.d (.list (W (w32 s.den)))]),(5,.var 65 [.d (.v (.bool (decide (a.num< 0)))),.d (.list (W (w32 a.num.natAbs))),.d (.list (W (w32 a.den)))]),(26,.row 65 3 0 (List.map q3d ((capsL s a n).take i)) true)],fun i=>i≤n,fun i=>n - i,0,?_,Nat.zero_le _,fun i hs=> ?_⟩
 ·constructor<;>(repeat' (first|exact rfl|exact True.intro|exact⟨_,_,rfl⟩|exact(by decide)|apply And.intro))
  all_goals first|exact congrArg (fun n:Int=>D.v (.int .i64 n)) (by omega)|exact congrArg (fun n:Int=>D.v (.int .i64 n)) (by rw [wrap64 _ (by omega) (by omega)];omega)|(simp;done)
 have hT:(List.map q3d ((capsL s a n).take i)).length≤50:=by rw [List.length_map,List.length_take];omega
 refine⟨fun e1=> ?_,fun e1=> ?_⟩
 ·have f11:(i:Int)+1≤(n:Int):=of_decide_eq_true e1
  have hlt:i< n:=by omega
  have hw:IntKind.i64.wrap (IntKind.i64.wrap ((n:Int)+1) - ((i:Int)+1))=(n:Int)+1 - ((i+1:Nat):Int):=by rw [wrap64 ((n:Int)+1) (by omega) (by omega),wrap64 _ (by omega) (by omega)];omega
  have hc:(if IntKind.i64.wrap (IntKind.i64.wrap ((n:Int)+1) - ((i:Int)+1))< (i:Int)+1 then IntKind.i64.wrap (IntKind.i64.wrap ((n:Int)+1) - ((i:Int)+1)) else (i:Int)+1)=min ((i+1:Nat):Int) ((n:Int)+1 - ((i+1:Nat):Int)):=by rw [hw];split<;>omega
  refine k_N3 (if IntKind.i64.wrap ((IntKind.i64.wrap ((n:Int)+1)) - ((i:Int)+1))< (i:Int)+1 then IntKind.i64.wrap ((IntKind.i64.wrap ((n:Int)+1)) - ((i:Int)+1)) else (i:Int)+1) (by omega) (by omega) fun q23 h23 z23=> ?_
  refine Zer (p:=a) (q:=q23) (by omega) (by omega) fun q24 h24 z24=> ?_
  refine Zid (p:=s) (q:=q24) (by omega) (by omega) fun q25 h25 z25=> ?_
  refine⟨⟨row1 rfl,(by show ((List.map q3d ((capsL s a n).take i)).length+1)*56≤_;omega),(by show ((List.map q3d ((capsL s a n).take i)).length+1)≤_;omega)⟩,?_⟩
  refine⟨by kernel_rfl,?_⟩
  have e25:q25=capQ s a n (i+1):=by rw [h25,h24,h23,hc];rfl
  refine⟨i+1,by omega,by simp only;omega,?_⟩
  constructor<;>(repeat' (first|exact rfl|exact True.intro|apply And.intro))
  all_goals first
   |(rw [ZeB hlt,← e25,ZkF];rfl)
   |exact congrArg (fun n:Int=>D.v (.int .i64 n)) (by rw [wrap64 _ (by omega) (by omega)];omega)
   |exact congrArg (fun n:Int=>D.v (.int .i64 n)) (by omega)
 ·have f11:¬ ((i:Int)+1≤(n:Int)):=of_decide_eq_false e1
  refine Eq.trans (b:= .val (.one (.d (.list (List.map q3d ((capsL s a n).take i)))))) ?_ rfl
  have hfin:(capsL s a n).take i=capsL s a n:=List.take_of_length_le (by rw [Zw];omega)
  rw [hfin]
  all_goals rfl
set_option maxHeartbeats 2000000 in
theorem Zjt (n:Nat) (s a:Rat) (hn:n≤50) (hS:qs s≤2097152) (hA:qs a≤2097152):SpecR Tryz.prog Tab 44 [int (n:Int),q3 s,q3 a] 65 3 (List.map q3d (capsL s a n)):=by
 refine ZnU Tryz.func44 rfl rfl Tryz.ntmps44 rfl (by kernel_rfl) rfl rfl ?_
 refine⟨Nat,fun i=> [(0,int (n:Int)),(4,.val (.one (.ptr 4 0))),(5,.val (.one (.ptr 5 0))),(7,.val (.one (.row 26 0))),(8,int ((i:Int)+1))],
  fun i=> [(4,.var 65 [.d (.v (.bool (decide (s.num< 0)))),.d (.list (W (w32 s.num.natAbs))),.d (.list (W (w32 s.den)))]),(5,.var 65 [.d (.v (.bool (decide (a.num< 0)))),.d (.list (W (w32 a.num.natAbs))),.d (.list (W (w32 a.den)))]),(26,.row 65 3 0 (List.map q3d ((capsL s a n).take i)) true)],fun i=>i≤n,fun i=>n - i,0,?_,Nat.zero_le _,fun i hs=> ?_⟩
 ·constructor<;>(repeat' (first|exact rfl|exact True.intro|exact⟨_,_,rfl⟩|exact(by decide)|apply And.intro))
  all_goals first|exact congrArg (fun n:Int=>D.v (.int .i64 n)) (by omega)|exact congrArg (fun n:Int=>D.v (.int .i64 n)) (by rw [wrap64 _ (by omega) (by omega)];omega)|(simp;done)
 have hT:(List.map q3d ((capsL s a n).take i)).length≤50:=by rw [List.length_map,List.length_take];omega
 refine⟨fun e1=> ?_,fun e1=> ?_⟩
 ·have f11:(i:Int)+1≤(n:Int):=of_decide_eq_true e1
  have hlt:i< n:=by omega
  have hw:IntKind.i64.wrap (IntKind.i64.wrap ((n:Int)+1) - ((i:Int)+1))=(n:Int)+1 - ((i+1:Nat):Int):=by rw [wrap64 ((n:Int)+1) (by omega) (by omega),wrap64 _ (by omega) (by omega)];omega
  have hc:(if IntKind.i64.wrap (IntKind.i64.wrap ((n:Int)+1) - ((i:Int)+1))< (i:Int)+1 then IntKind.i64.wrap (IntKind.i64.wrap ((n:Int)+1) - ((i:Int)+1)) else (i:Int)+1)=min ((i+1:Nat):Int) ((n:Int)+1 - ((i+1:Nat):Int)):=by rw [hw];split<;>omega
  refine k_N3 (if IntKind.i64.wrap ((IntKind.i64.wrap ((n:Int)+1)) - ((i:Int)+1))< (i:Int)+1 then IntKind.i64.wrap ((IntKind.i64.wrap ((n:Int)+1)) - ((i:Int)+1)) else (i:Int)+1) (by omega) (by omega) fun q23 h23 z23=> ?_
  refine Zer (p:=a) (q:=q23) (by omega) (by omega) fun q24 h24 z24=> ?_
  refine Zid (p:=s) (q:=q24) (by omega) (by omega) fun q25 h25 z25=> ?_
  refine⟨⟨row1 rfl,(by show ((List.map q3d ((capsL s a n).take i)).length+1)*56≤_;omega),(by show ((List.map q3d ((capsL s a n).take i)).length+1)≤_;omega)⟩,?_⟩
  refine⟨by kernel_rfl,?_⟩
  have e25:q25=capQ s a n (i+1):=by rw [h25,h24,h23,hc];rfl
  refine⟨i+1,by omega,by simp only;omega,?_⟩
  constructor<;>(repeat' (first|exact rfl|exact True.intro|apply And.intro))
  all_goals first
   |(rw [ZeB hlt,← e25,ZkF];rfl)
   |exact congrArg (fun n:Int=>D.v (.int .i64 n)) (by rw [wrap64 _ (by omega) (by omega)];omega)
   |exact congrArg (fun n:Int=>D.v (.int .i64 n)) (by omega)
 ·have f11:¬ ((i:Int)+1≤(n:Int)):=of_decide_eq_false e1
  have hfin:Ob.row 65 3 0 (List.map q3d ((capsL s a n).take i)) true=Ob.row 65 3 0 (List.map q3d (capsL s a n)) true:=by rw [List.take_of_length_le (by rw [Zw];omega)]
  exact hfin
set_option maxHeartbeats 2000000 in
theorem ZiH (l:List Rat) (hl:l.length≤50∧∀ q,q∈l→qs q≤8388608):Spec Tryz.prog Tab 43 [.val (.one (.d (.list (List.map q3d l))))] (q3 (sumL l)):=by
 have hLl:(List.map q3d l).length=l.length:=List.length_map ..
 have hl1:=hl.1
 refine Zf Tryz.func43 rfl rfl Tryz.ntmps43 rfl (by kernel_rfl) rfl rfl ?_
 refine k_N3 (0) (by omega) (by omega) fun q6 h6 z6=> ?_
 have e6:q6=sumL (l.take 0):=h6
 refine⟨Nat,fun i=> [(2,.val (.one (.ptr 2 0))),(3,.val (.one (.ptr 3 0))),(7,.val (.one (.d (.list (List.map q3d l))))),(8,int ((List.map q3d l).length:Int)),(9,int (i:Int))],
  fun i=> [(2,.var 65 [.d (.v (.bool false)),.d (.v (.slice none 0 0)),.d (.v (.slice none 0 0))]),(3,.var 65 [.d (.v (.bool (decide ((sumL (l.take i)).num< 0)))),.d (.list (W (w32 (sumL (l.take i)).num.natAbs))),.d (.list (W (w32 (sumL (l.take i)).den)))])],fun i=>i≤l.length,fun i=>l.length - i,0,?_,Nat.zero_le _,fun i hs=> ?_⟩
 ·constructor<;>(repeat' (first|exact rfl|exact True.intro|exact⟨_,_,rfl⟩|exact(by decide)|apply And.intro))
  all_goals first
   |exact congrArg (fun q:Rat=>D.v (.bool (decide (q.num< 0)))) e6
   |exact congrArg (fun q:Rat=>D.v (.bool (decide (q.num< 0)))) e6.symm
   |exact congrArg (fun q:Rat=>D.list (W (w32 q.num.natAbs))) e6
   |exact congrArg (fun q:Rat=>D.list (W (w32 q.num.natAbs))) e6.symm
   |exact congrArg (fun q:Rat=>D.list (W (w32 q.den))) e6
   |exact congrArg (fun q:Rat=>D.list (W (w32 q.den))) e6.symm
   |exact congrArg (fun n:Int=>D.v (.int .i64 n)) (by omega)
   |(simp;done)
 have hb:=Zfy (C:=8388608) hl.2 i
 have hm:i*(8388608+1)≤50*(8388608+1):=Nat.mul_le_mul_right _ (by have:=hl.1;omega)
 refine⟨fun e1=> ?_,fun e1=> ?_⟩
 ·have f10:(i:Int)< ((List.map q3d l).length:Int):=of_decide_eq_true e1
  refine get_ex (l:=l) (i:=i) (by first|omega|exact Nat.mod_lt _ (by omega)) fun x11 hx11=> ?_
  have hzx11:=hl.2 x11 (List.mem_of_getElem? hx11)
  refine k_ix i [D.v (.bool (decide (x11.num< 0))),D.list (W (w32 x11.num.natAbs)),D.list (W (w32 x11.den))] (by first|rfl|omega|(rw [wrap64 _ (by omega) (by omega)];omega)|(rw [wrap64 _ (by omega) (by omega)];split<;>omega)) (Zm hx11) rfl ?_
  refine Zih (p:=sumL (l.take i)) (q:=x11) (by omega) (by omega) fun q15 h15 z15=> ?_
  have e15:q15=sumL (l.take (i+1)):=by rw [ZaF hx11,h15]
  refine⟨i+1,by omega,by simp only;omega,?_⟩
  constructor<;>(repeat' (first|exact rfl|exact True.intro|apply And.intro))
  all_goals first
   |exact congrArg (fun q:Rat=>D.v (.bool (decide (q.num< 0)))) e15
   |exact congrArg (fun q:Rat=>D.v (.bool (decide (q.num< 0)))) e15.symm
   |exact congrArg (fun q:Rat=>D.list (W (w32 q.num.natAbs))) e15
   |exact congrArg (fun q:Rat=>D.list (W (w32 q.num.natAbs))) e15.symm
   |exact congrArg (fun q:Rat=>D.list (W (w32 q.den))) e15
   |exact congrArg (fun q:Rat=>D.list (W (w32 q.den))) e15.symm
   |exact congrArg (fun n:Int=>D.v (.int .i64 n)) (by rw [wrap64 _ (by omega) (by omega)];omega)
   |exact congrArg (fun n:Int=>D.v (.int .i64 n)) (by omega)
 ·have f10:¬ ((i:Int)< ((List.map q3d l).length:Int)):=of_decide_eq_false e1
  refine Eq.trans (b:=q3 (sumL (l.take i))) ?_ rfl
  obtain rfl:i=l.length:=by omega
  rw [List.take_length]
  all_goals rfl
set_option maxHeartbeats 2000000 in
theorem ZjU (l:List Rat) (hl:l.length≤50∧∀ q,q∈l→qs q≤8388608):SpecL Tryz.prog Tab 43 [.val (.one (.row 1000 0))] 65 3 (List.map q3d l) (q3 (sumL l)):=by
 have hLl:(List.map q3d l).length=l.length:=List.length_map ..
 have hl1:=hl.1
 refine fn_L 0 [] Tryz.func43 rfl rfl Tryz.ntmps43 rfl (by kernel_rfl) rfl rfl rfl ?_
 refine k_N3 (0) (by omega) (by omega) fun q6 h6 z6=> ?_
 have e6:q6=sumL (l.take 0):=h6
 refine⟨Nat,fun i=> [(0,.val (.one (.row 1000 0))),(2,.val (.one (.ptr 2 0))),(3,.val (.one (.ptr 3 0))),(7,.val (.one (.row 1000 0))),(8,int ((List.map q3d l).length:Int)),(9,int (i:Int))],
  fun i=> [(2,.var 65 [.d (.v (.bool false)),.d (.v (.slice none 0 0)),.d (.v (.slice none 0 0))]),(3,.var 65 [.d (.v (.bool (decide ((sumL (l.take i)).num< 0)))),.d (.list (W (w32 (sumL (l.take i)).num.natAbs))),.d (.list (W (w32 (sumL (l.take i)).den)))]),(1000,.row 65 3 0 (List.map q3d l) true)],fun i=>i≤l.length,fun i=>l.length - i,0,?_,Nat.zero_le _,fun i hs=> ?_⟩
 ·constructor<;>(repeat' (first|exact rfl|exact True.intro|exact⟨_,_,rfl⟩|exact(by decide)|apply And.intro))
  all_goals first
   |exact congrArg (fun q:Rat=>D.v (.bool (decide (q.num< 0)))) e6
   |exact congrArg (fun q:Rat=>D.v (.bool (decide (q.num< 0)))) e6.symm
   |exact congrArg (fun q:Rat=>D.list (W (w32 q.num.natAbs))) e6
   |exact congrArg (fun q:Rat=>D.list (W (w32 q.num.natAbs))) e6.symm
   |exact congrArg (fun q:Rat=>D.list (W (w32 q.den))) e6
   |exact congrArg (fun q:Rat=>D.list (W (w32 q.den))) e6.symm
   |exact congrArg (fun n:Int=>D.v (.int .i64 n)) (by omega)
   |(simp;done)
 have hb:=Zfy (C:=8388608) hl.2 i
 have hm:i*(8388608+1)≤50*(8388608+1):=Nat.mul_le_mul_right _ (by have:=hl.1;omega)
 refine⟨fun e1=> ?_,fun e1=> ?_⟩
 ·have f10:(i:Int)< ((List.map q3d l).length:Int):=of_decide_eq_true e1
  refine k_at_own' i (by first|rfl|omega|(rw [wrap64 _ (by omega) (by omega)];omega)|(rw [wrap64 _ (by omega) (by omega)];split<;>omega)) (by first|omega|(simp only [List.length_set];omega)|(simp;omega)) ?_
  refine get_ex (l:=l) (i:=i) (by first|omega|exact Nat.mod_lt _ (by omega)) fun x12 hx12=> ?_
  have hzx12:=hl.2 x12 (List.mem_of_getElem? hx12)
  refine Zhk [D.v (.bool (decide (x12.num< 0))),D.list (W (w32 x12.num.natAbs)),D.list (W (w32 x12.den))] _ (Zm hx12) rfl rfl ?_
  refine Zih (p:=sumL (l.take i)) (q:=x12) (by omega) (by omega) fun q15 h15 z15=> ?_
  have e15:q15=sumL (l.take (i+1)):=by rw [ZaF hx12,h15]
  refine⟨i+1,by omega,by simp only;omega,?_⟩
  constructor<;>(repeat' (first|exact rfl|exact True.intro|apply And.intro))
  all_goals first
   |exact congrArg (fun q:Rat=>D.v (.bool (decide (q.num< 0)))) e15
   |exact congrArg (fun q:Rat=>D.v (.bool (decide (q.num< 0)))) e15.symm
   |exact congrArg (fun q:Rat=>D.list (W (w32 q.num.natAbs))) e15
   |exact congrArg (fun q:Rat=>D.list (W (w32 q.num.natAbs))) e15.symm
   |exact congrArg (fun q:Rat=>D.list (W (w32 q.den))) e15
   |exact congrArg (fun q:Rat=>D.list (W (w32 q.den))) e15.symm
   |exact congrArg (fun n:Int=>D.v (.int .i64 n)) (by rw [wrap64 _ (by omega) (by omega)];omega)
   |exact congrArg (fun n:Int=>D.v (.int .i64 n)) (by omega)
 ·have f10:¬ ((i:Int)< ((List.map q3d l).length:Int)):=of_decide_eq_false e1
  refine⟨Eq.trans (b:=q3 (sumL (l.take i))) ?_ rfl,⟨_,rfl,rfl⟩⟩
  obtain rfl:i=l.length:=by omega
  rw [List.take_length]
  all_goals rfl
theorem Zov {l:List Rat} (hl:l.length≤50∧∀ q,q∈l→qs q≤8388608) (k:∀ q,q=sumL l→K (q3 q)):Ask 43 [.val (.one (.d (.list (List.map q3d l))))] K:=use (ZiH l hl) rfl (k _ rfl)
theorem Zpz {n:Nat} {m:Int} {s a:Rat} (hm:m=(n:Int)) (hn:n≤50) (hS:qs s≤2097152) (hA:qs a≤2097152) (k:K (.val (.one (.d (.list (List.map q3d (capsL s a n))))))):Ask 44 [int m,q3 s,q3 a] K:=by
 subst hm;exact use (Zju n s a hn hS hA) rfl k
theorem Zlk {n:Nat} {m:Int} {s a:Rat} (hm:m=(n:Int)) (hn:n≤50) (hS:qs s≤2097152) (hA:qs a≤2097152) (k:K (.new 65 3 (List.map q3d (capsL s a n)))):Ask 44 [int m,q3 s,q3 a] K:=by
 subst hm;exact useN (Zjt n s a hn hS hA) k
theorem ZlI {s a f q:Rat} {n:Nat} (hq:q=sumL (capsL s a n)) (h:q< f):enough s a f n=false:=by
 subst hq;unfold enough;rw [decide_eq_false_iff_not];exact Rat.not_le.2 h
theorem ZbL {s a f q:Rat} {n:Nat} (hq:q=sumL (capsL s a n)) (h:¬ q< f):enough s a f n=true:=by
 subst hq;unfold enough;exact decide_eq_true (Rat.not_lt.1 h)
theorem ZaS {f s a:Rat} {t e:Int} (h:profE f s a t=e) (he:e≠0):profL f s a t= []:=by unfold profL;rw [h,if_neg he]
theorem ZkK {f s a:Rat} {t:Int} (h:profE f s a t=0):profL f s a t=chL f s a (profN f s a t):=by unfold profL chL;rw [h,if_pos rfl]
theorem Zht {s a:Rat} (hS:qs s≤2097152) (hA:qs a≤2097152) {n:Nat} (hn:n≤50):(capsL s a n).length≤50∧∀ q,q∈capsL s a n→qs q≤8388608:=
 ⟨by rw [Zw];exact hn,fun q hq=>Nat.le_trans (ZdV s a n hn q hq) (by omega)⟩
theorem ZjZ {s a:Rat} (hS:qs s≤2097152) (hA:qs a≤2097152) {n:Nat} (hn:n≤50):qs (sumL (capsL s a n))≤300000000:=by
 have h:=Zfy (C:=4194312) (fun q hq=>Nat.le_trans (ZdV s a n hn q hq) (by omega)) n
 rw [List.take_of_length_le (by rw [Zw];omega)] at h
 have:n*(4194312+1)≤50*(4194312+1):=Nat.mul_le_mul_right _ hn
 omega
set_option maxHeartbeats 8000000 in
theorem ZjD (f s a:Rat) (t:Int) (h1:-9223372036854775808≤t) (h2:t≤9223372036854775807) (hf:qs f≤4194304) (hS:qs s≤2097152) (hA:qs a≤2097152):Spec Tryz.prog Tab 20 [q3 f,q3 s,q3 a,int t] (.tup [.one (.d (.list (List.map q3d (profL f s a t)))),.one (.d (.v (.int .i64 (profE f s a t))))]):=by
 refine ZlC [100067] Tryz.func20 rfl rfl Tryz.ntmps20 rfl (by kernel_rfl) rfl rfl ?_
 refine Zat (q:=f) fun n15 h15=> ?_
 refine fork (fun e1=> ?_) (fun e1=> ?_)
 ·have f17:f< 0:=(Zdy h15).1 (of_decide_eq_true e1)
  refine⟨fun _=> ?_,fun e=>absurd e (by decide)⟩
  refine Eq.trans (b:= .tup [.one (.d (.list ([]))),.one (.d (.v (.int .i64 (1))))]) ?_ rfl
  have hpe:=ZcK (f:=f) (s:=s) (a:=a) (t:=t) (.inl f17)
  rw [ZaS hpe (by decide),hpe]
  all_goals rfl
 ·have f17:¬ (f< 0):=fun hh=>of_decide_eq_false e1 ((Zdy h15).2 hh)
  refine Zat (q:=s) fun n19 h19=> ?_
  refine fork (fun e2=> ?_) (fun e2=> ?_)
  ·have f22:s≤0:=(ZN h19).1 (of_decide_eq_true e2)
   refine⟨fun _=> ?_,fun e=>absurd e (by decide)⟩
   refine Eq.trans (b:= .tup [.one (.d (.list ([]))),.one (.d (.v (.int .i64 (1))))]) ?_ rfl
   have hpe:=ZcK (f:=f) (s:=s) (a:=a) (t:=t) (.inr (.inl f22))
   rw [ZaS hpe (by decide),hpe]
   all_goals rfl
  ·have f22:¬ (s≤0):=fun hh=>of_decide_eq_false e2 ((ZN h19).2 hh)
   refine Zat (q:=a) fun n24 h24=> ?_
   refine fork (fun e3=> ?_) (fun e3=> ?_)
   ·have f27:a≤0:=(ZN h24).1 (of_decide_eq_true e3)
    refine⟨fun _=> ?_,fun e=>absurd e (by decide)⟩
    refine Eq.trans (b:= .tup [.one (.d (.list ([]))),.one (.d (.v (.int .i64 (1))))]) ?_ rfl
    have hpe:=ZcK (f:=f) (s:=s) (a:=a) (t:=t) (.inr (.inr (.inl f27)))
    rw [ZaS hpe (by decide),hpe]
    all_goals rfl
   ·have f27:¬ (a≤0):=fun hh=>of_decide_eq_false e3 ((ZN h24).2 hh)
    refine fork (fun e4=> ?_) (fun e4=> ?_)
    ·have f31:t< 0:=of_decide_eq_true e4
     refine⟨fun _=> ?_,fun e=>absurd e (by decide)⟩
     refine Eq.trans (b:= .tup [.one (.d (.list ([]))),.one (.d (.v (.int .i64 (1))))]) ?_ rfl
     have hpe:=ZcK (f:=f) (s:=s) (a:=a) (t:=t) (.inr (.inr (.inr (.inl f31))))
     rw [ZaS hpe (by decide),hpe]
     all_goals rfl
    ·have f31:¬ (t< 0):=of_decide_eq_false e4
     refine⟨fun e5=> ?_,fun e5=> ?_⟩
     ·have f34:t >50:=of_decide_eq_true e5
      refine Eq.trans (b:= .tup [.one (.d (.list ([]))),.one (.d (.v (.int .i64 (1))))]) ?_ rfl
      have hpe:=ZcK (f:=f) (s:=s) (a:=a) (t:=t) (.inr (.inr (.inr (.inr f34))))
      rw [ZaS hpe (by decide),hpe]
      all_goals rfl
     ·have f34:¬ (t >50):=of_decide_eq_false e5
      refine⟨Nat,fun i=> [(3,int t),(4,.val (.one (.ptr 4 0))),(5,.val (.one (.ptr 5 0))),(6,.val (.one (.ptr 6 0))),(10,int ((i:Int)+1))],
       fun i=> [(4,.var 65 [.d (.v (.bool (decide (f.num< 0)))),.d (.list (W (w32 f.num.natAbs))),.d (.list (W (w32 f.den)))]),(5,.var 65 [.d (.v (.bool (decide (s.num< 0)))),.d (.list (W (w32 s.num.natAbs))),.d (.list (W (w32 s.den)))]),(6,.var 65 [.d (.v (.bool (decide (a.num< 0)))),.d (.list (W (w32 a.num.natAbs))),.d (.list (W (w32 a.den)))])],fun i=>i≤50∧firstN (enough s a f) (50 - i) (i+1)=needN s a f,fun i=>50 - i,0,?_,⟨Nat.zero_le _,need0 _ _ _⟩,fun i hs=> ?_⟩
      ·constructor<;>(repeat' (first|exact rfl|exact True.intro|exact⟨_,_,rfl⟩|exact(by decide)|apply And.intro))
       all_goals first|exact congrArg (fun n:Int=>D.v (.int .i64 n)) (by omega)|exact congrArg (fun n:Int=>D.v (.int .i64 n)) (by rw [wrap64 _ (by omega) (by omega)];omega)|(simp;done)
      have g1:=hs.1
      have g2:=hs.2
      refine fork (fun e6=> ?_) (fun e6=> ?_)
      ·have f37:(i:Int)+1≤50:=of_decide_eq_true e6
       refine Zpz (n:=i+1) (s:=s) (a:=a) (by omega) (by omega) hS hA ?_
       refine Zov (l:=capsL s a (i+1)) (Zht hS hA (by omega)) fun q42 h42=> ?_
       have z42:qs q42≤300000000:=by rw [h42];exact ZjZ hS hA (by omega)
       refine Zes (p:=q42) (q:=f) (by omega) (by omega) fun n44 h44=> ?_
       refine⟨by kernel_rfl,?_⟩
       refine⟨fun e7=> ?_,fun e7=> ?_⟩
       ·have f46:q42< f:=(c3_lt h44).1 (of_decide_eq_true e7)
        have hen:enough s a f (i+1)=false:=ZlI h42 f46
        have hnx:firstN (enough s a f) (50 - (i+1)) (i+1+1)=needN s a f:=by
         have h:=g2
         rw [show 50 - i=(50 - (i+1))+1 by omega,firstN,hen] at h
         exact h
        refine⟨i+1,⟨by omega,hnx⟩,by simp only;omega,?_⟩
        constructor<;>(repeat' (first|exact rfl|exact True.intro|apply And.intro))
        all_goals first
         |exact congrArg (fun n:Int=>D.v (.int .i64 n)) (by rw [wrap64 _ (by omega) (by omega)];omega)
         |exact congrArg (fun n:Int=>D.v (.int .i64 n)) (by omega)
       ·have f46:¬ (q42< f):=fun hh=>of_decide_eq_false e7 ((c3_lt h44).2 hh)
        refine fork (fun e8=> ?_) (fun e8=> ?_)
        ·have f51:(i:Int)+1 >50:=of_decide_eq_true e8
         refine⟨fun _=> ?_,fun e=>absurd e (by decide)⟩
         refine Eq.trans (b:= .tup [.one (.d (.list ([]))),.one (.d (.v (.int .i64 (19))))]) ?_ rfl
         have hen:enough s a f (i+1)=true:=ZbL h42 f46
         have hneed:needN s a f=i+1:=by
          have h:=g2
          rw [show 50 - i=(50 - (i+1))+1 by omega,firstN,hen] at h
          exact h.symm
         have hpe:=Zdg (f:=f) (s:=s) (a:=a) (t:=t) (fun h=>by rcases h with h|h|h|h|h<;>first|exact f17 h|exact f22 h|exact f27 h|omega) (by rw [hneed];omega)
         rw [ZaS hpe (by decide),hpe]
         all_goals rfl
        ·have f51:¬ ((i:Int)+1 >50):=of_decide_eq_false e8
         refine fork (fun e9=> ?_) (fun e9=> ?_)
         ·have f54:t >0:=of_decide_eq_true e9
          refine⟨fun e10=> ?_,fun e10=> ?_⟩
          ·have f59:t< (i:Int)+1:=of_decide_eq_true e10
           refine Eq.trans (b:= .tup [.one (.d (.list ([]))),.one (.d (.v (.int .i64 (19))))]) ?_ rfl
           have hen:enough s a f (i+1)=true:=ZbL h42 f46
           have hneed:needN s a f=i+1:=by
            have h:=g2
            rw [show 50 - i=(50 - (i+1))+1 by omega,firstN,hen] at h
            exact h.symm
           have hpe:=Zdg (f:=f) (s:=s) (a:=a) (t:=t) (fun h=>by rcases h with h|h|h|h|h<;>first|exact f17 h|exact f22 h|exact f27 h|omega) (by rw [hneed];omega)
           rw [ZaS hpe (by decide),hpe]
           all_goals rfl
          ·have f59:¬ (t< (i:Int)+1):=of_decide_eq_false e10
           have hen:enough s a f (i+1)=true:=ZbL h42 f46
           have hneed:needN s a f=i+1:=by
            have h:=g2
            rw [show 50 - i=(50 - (i+1))+1 by omega,firstN,hen] at h
            exact h.symm
           have hlate:¬ (50< needN s a f∨(0< t∧t< (needN s a f:Int))):=by rw [hneed];omega
           have hpe:profE f s a t=0:=ZcL (fun h=>by rcases h with h|h|h|h|h<;>first|exact f17 h|exact f22 h|exact f27 h|omega) hlate
           have hN1:(if t >(i:Int)+1 then t else (i:Int)+1)=(profN f s a t:Int):=by unfold profN;rw [hneed];split<;>omega
           have hN2:profN f s a t≤50:=by unfold profN;rw [hneed];omega
           have hN3:0< profN f s a t:=by unfold profN;rw [hneed];omega
           refine Zlk (n:=profN f s a t) (s:=s) (a:=a) hN1 hN2 hS hA ?_
           have z67:=ZjZ hS hA hN2
           refine⟨q3 (sumL (capsL s a (profN f s a t))),⟨rfl,ZjU (capsL s a (profN f s a t)) (Zht hS hA hN2)⟩,?_⟩
           have hpos:=ZaZ (Rat.not_le.1 f22) (Rat.not_le.1 f27) hN3
           have r0:List.map q3d (capsL s a (profN f s a t))=List.map q3d (chR f s a (profN f s a t) 0):=congrArg (List.map q3d) (ZpR f s a (profN f s a t))
           refine⟨Nat,fun j=> [(4,.val (.one (.ptr 4 0))),(11,.val (.one (.row 65 0))),(12,.val (.one (.ptr 12 0))),(69,int ((List.map q3d (capsL s a (profN f s a t))).length:Int)),(70,int (j:Int))],
            fun j=> [(4,.var 65 [.d (.v (.bool (decide (f.num< 0)))),.d (.list (W (w32 f.num.natAbs))),.d (.list (W (w32 f.den)))]),(12,.var 65 [.d (.v (.bool (decide ((sumL (capsL s a (profN f s a t))).num< 0)))),.d (.list (W (w32 (sumL (capsL s a (profN f s a t))).num.natAbs))),.d (.list (W (w32 (sumL (capsL s a (profN f s a t))).den)))]),(65,.row 65 3 0 (List.map q3d (chR f s a (profN f s a t) j)) true)],fun j=>j≤(profN f s a t),fun j=>(profN f s a t) - j,0,?_,Nat.zero_le _,fun j hs=> ?_⟩
           ·constructor<;>(repeat' (first|exact rfl|exact True.intro|exact⟨_,_,rfl⟩|exact(by decide)|apply And.intro))
            all_goals first
             |exact r0
             |exact r0.symm
             |exact congrArg (fun n:Int=>D.v (.int .i64 n)) (by omega)
             |(simp;done)
           have hLc:(List.map q3d (chR f s a (profN f s a t) j)).length=(profN f s a t):=by rw [List.length_map,Zfo _ _ _ hs]
           have hLc2:=Zfo f s a hs
           have hLp:(List.map q3d (capsL s a (profN f s a t))).length=(profN f s a t):=by rw [List.length_map,Zw]
           refine⟨fun e11=> ?_,fun e11=> ?_⟩
           ·have f71:(j:Int)< ((List.map q3d (capsL s a (profN f s a t))).length:Int):=of_decide_eq_true e11
            refine k_at_own' j (by first|rfl|omega|(rw [wrap64 _ (by omega) (by omega)];omega)|(rw [wrap64 _ (by omega) (by omega)];split<;>omega)) (by first|omega|(simp only [List.length_set];omega)|(simp;omega)) ?_
            refine get_ex (l:=(chR f s a (profN f s a t) j)) (i:=j) (by first|omega|exact Nat.mod_lt _ (by omega)) fun x78 hx78=> ?_
            have hzx78:=ZnY hN2 (by omega) hx78
            refine Zhk [D.v (.bool (decide (x78.num< 0))),D.list (W (w32 x78.num.natAbs)),D.list (W (w32 x78.den))] _ (Zm hx78) rfl rfl ?_
            refine Zer (p:=x78) (q:=f) (by omega) (by omega) fun q80 h80 z80=> ?_
            refine ZnR (p:=q80) (q:=(sumL (capsL s a (profN f s a t)))) (by omega) (by omega) (fun h=>Rat.ne_of_gt hpos h) fun q82 h82 z82=> ?_
            refine k_at_own' j (by first|rfl|omega|(rw [wrap64 _ (by omega) (by omega)];omega)|(rw [wrap64 _ (by omega) (by omega)];split<;>omega)) (by first|omega|(simp only [List.length_set];omega)|(simp;omega)) ?_
            refine⟨by first|omega|(simp only [List.length_set];omega)|(simp;omega),?_⟩
            refine⟨by kernel_rfl,?_⟩
            have hj:j< (profN f s a t):=by omega
            have hx:x78=capQ s a (profN f s a t) (j+1):=Option.some.inj (hx78.symm.trans (ZlZ hj))
            have e82:(List.map q3d (chR f s a (profN f s a t) j)).set j (q3d q82)=List.map q3d (chR f s a (profN f s a t) (j+1)):=by rw [← List.map_set,ZlY hj (by rw [h82,h80,hx];grind)]
            refine⟨j+1,by omega,by simp only;omega,?_⟩
            constructor<;>(repeat' (first|exact rfl|exact True.intro|apply And.intro))
            all_goals first
             |exact e82
             |exact e82.symm
             |exact congrArg (fun n:Int=>D.v (.int .i64 n)) (by rw [wrap64 _ (by omega) (by omega)];omega)
             |exact congrArg (fun n:Int=>D.v (.int .i64 n)) (by omega)
           ·have f71:¬ ((j:Int)< ((List.map q3d (capsL s a (profN f s a t))).length:Int)):=of_decide_eq_false e11
            refine Eq.trans (b:= .tup [.one (.d (.list (List.map q3d (chR f s a (profN f s a t) j)))),.one (.d (.v (.int .i64 (0))))]) ?_ rfl
            obtain rfl:j=(profN f s a t):=by omega
            rw [ZkK hpe,hpe,ZpQ]
            all_goals rfl
         ·have f54:¬ (t >0):=of_decide_eq_false e9
          refine⟨fun e=>absurd e (by decide),fun _=> ?_⟩
          have hen:enough s a f (i+1)=true:=ZbL h42 f46
          have hneed:needN s a f=i+1:=by
           have h:=g2
           rw [show 50 - i=(50 - (i+1))+1 by omega,firstN,hen] at h
           exact h.symm
          have hlate:¬ (50< needN s a f∨(0< t∧t< (needN s a f:Int))):=by rw [hneed];omega
          have hpe:profE f s a t=0:=ZcL (fun h=>by rcases h with h|h|h|h|h<;>first|exact f17 h|exact f22 h|exact f27 h|omega) hlate
          have hN1:(if t >(i:Int)+1 then t else (i:Int)+1)=(profN f s a t:Int):=by unfold profN;rw [hneed];split<;>omega
          have hN2:profN f s a t≤50:=by unfold profN;rw [hneed];omega
          have hN3:0< profN f s a t:=by unfold profN;rw [hneed];omega
          refine Zlk (n:=profN f s a t) (s:=s) (a:=a) hN1 hN2 hS hA ?_
          have z67:=ZjZ hS hA hN2
          refine⟨q3 (sumL (capsL s a (profN f s a t))),⟨rfl,ZjU (capsL s a (profN f s a t)) (Zht hS hA hN2)⟩,?_⟩
          have hpos:=ZaZ (Rat.not_le.1 f22) (Rat.not_le.1 f27) hN3
          have r0:List.map q3d (capsL s a (profN f s a t))=List.map q3d (chR f s a (profN f s a t) 0):=congrArg (List.map q3d) (ZpR f s a (profN f s a t))
          refine⟨Nat,fun j=> [(4,.val (.one (.ptr 4 0))),(11,.val (.one (.row 65 0))),(12,.val (.one (.ptr 12 0))),(69,int ((List.map q3d (capsL s a (profN f s a t))).length:Int)),(70,int (j:Int))],
           fun j=> [(4,.var 65 [.d (.v (.bool (decide (f.num< 0)))),.d (.list (W (w32 f.num.natAbs))),.d (.list (W (w32 f.den)))]),(12,.var 65 [.d (.v (.bool (decide ((sumL (capsL s a (profN f s a t))).num< 0)))),.d (.list (W (w32 (sumL (capsL s a (profN f s a t))).num.natAbs))),.d (.list (W (w32 (sumL (capsL s a (profN f s a t))).den)))]),(65,.row 65 3 0 (List.map q3d (chR f s a (profN f s a t) j)) true)],fun j=>j≤(profN f s a t),fun j=>(profN f s a t) - j,0,?_,Nat.zero_le _,fun j hs=> ?_⟩
          ·constructor<;>(repeat' (first|exact rfl|exact True.intro|exact⟨_,_,rfl⟩|exact(by decide)|apply And.intro))
           all_goals first
            |exact r0
            |exact r0.symm
            |exact congrArg (fun n:Int=>D.v (.int .i64 n)) (by omega)
            |(simp;done)
          have hLc:(List.map q3d (chR f s a (profN f s a t) j)).length=(profN f s a t):=by rw [List.length_map,Zfo _ _ _ hs]
          have hLc2:=Zfo f s a hs
          have hLp:(List.map q3d (capsL s a (profN f s a t))).length=(profN f s a t):=by rw [List.length_map,Zw]
          refine⟨fun e12=> ?_,fun e12=> ?_⟩
          ·have f71:(j:Int)< ((List.map q3d (capsL s a (profN f s a t))).length:Int):=of_decide_eq_true e12
           refine k_at_own' j (by first|rfl|omega|(rw [wrap64 _ (by omega) (by omega)];omega)|(rw [wrap64 _ (by omega) (by omega)];split<;>omega)) (by first|omega|(simp only [List.length_set];omega)|(simp;omega)) ?_
           refine get_ex (l:=(chR f s a (profN f s a t) j)) (i:=j) (by first|omega|exact Nat.mod_lt _ (by omega)) fun x78 hx78=> ?_
           have hzx78:=ZnY hN2 (by omega) hx78
           refine Zhk [D.v (.bool (decide (x78.num< 0))),D.list (W (w32 x78.num.natAbs)),D.list (W (w32 x78.den))] _ (Zm hx78) rfl rfl ?_
           refine Zer (p:=x78) (q:=f) (by omega) (by omega) fun q80 h80 z80=> ?_
           refine ZnR (p:=q80) (q:=(sumL (capsL s a (profN f s a t)))) (by omega) (by omega) (fun h=>Rat.ne_of_gt hpos h) fun q82 h82 z82=> ?_
           refine k_at_own' j (by first|rfl|omega|(rw [wrap64 _ (by omega) (by omega)];omega)|(rw [wrap64 _ (by omega) (by omega)];split<;>omega)) (by first|omega|(simp only [List.length_set];omega)|(simp;omega)) ?_
           refine⟨by first|omega|(simp only [List.length_set];omega)|(simp;omega),?_⟩
           refine⟨by kernel_rfl,?_⟩
           have hj:j< (profN f s a t):=by omega
           have hx:x78=capQ s a (profN f s a t) (j+1):=Option.some.inj (hx78.symm.trans (ZlZ hj))
           have e82:(List.map q3d (chR f s a (profN f s a t) j)).set j (q3d q82)=List.map q3d (chR f s a (profN f s a t) (j+1)):=by rw [← List.map_set,ZlY hj (by rw [h82,h80,hx];grind)]
           refine⟨j+1,by omega,by simp only;omega,?_⟩
           constructor<;>(repeat' (first|exact rfl|exact True.intro|apply And.intro))
           all_goals first
            |exact e82
            |exact e82.symm
            |exact congrArg (fun n:Int=>D.v (.int .i64 n)) (by rw [wrap64 _ (by omega) (by omega)];omega)
            |exact congrArg (fun n:Int=>D.v (.int .i64 n)) (by omega)
          ·have f71:¬ ((j:Int)< ((List.map q3d (capsL s a (profN f s a t))).length:Int)):=of_decide_eq_false e12
           refine Eq.trans (b:= .tup [.one (.d (.list (List.map q3d (chR f s a (profN f s a t) j)))),.one (.d (.v (.int .i64 (0))))]) ?_ rfl
           obtain rfl:j=(profN f s a t):=by omega
           rw [ZkK hpe,hpe,ZpQ]
           all_goals rfl
      ·have f37:¬ ((i:Int)+1≤50):=of_decide_eq_false e6
       refine⟨by kernel_rfl,?_⟩
       refine⟨fun e=>absurd e (by decide),fun _=> ?_⟩
       refine fork (fun e13=> ?_) (fun e13=> ?_)
       ·have f51:(i:Int)+1 >50:=of_decide_eq_true e13
        refine⟨fun _=> ?_,fun e=>absurd e (by decide)⟩
        refine Eq.trans (b:= .tup [.one (.d (.list ([]))),.one (.d (.v (.int .i64 (19))))]) ?_ rfl
        have hneed:needN s a f=51:=by
         obtain rfl:i=50:=by omega
         exact g2.symm
        have hpe:=Zdg (f:=f) (s:=s) (a:=a) (t:=t) (fun h=>by rcases h with h|h|h|h|h<;>first|exact f17 h|exact f22 h|exact f27 h|omega) (by rw [hneed];omega)
        rw [ZaS hpe (by decide),hpe]
        all_goals rfl
       ·have f51:¬ ((i:Int)+1 >50):=of_decide_eq_false e13
        exfalso
        omega
end
end Go.Proofs.YtjlhknppkodilaaGreatDoor.eng
