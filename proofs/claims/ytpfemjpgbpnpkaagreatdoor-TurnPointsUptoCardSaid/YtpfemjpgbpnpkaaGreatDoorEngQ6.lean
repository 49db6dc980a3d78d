/- Walks: gantref1.Squared, nat.Root. -/
import Derived.Test.YtpfemjpgbpnpkaaGreatDoorGrp9
set_option maxRecDepth 100000
namespace Go.Proofs.YtpfemjpgbpnpkaaGreatDoor.eng
open Go.RowKit num mem seg q held ratA ratB ratC ratD ratE vars ratF natA natC natD natI
section
variable {K : AV → Prop} {a b : ByteArray} {n m : Nat}
theorem Zly (x:Nat):bz (x+x)≤bz x+1:=by have:=Zlz x x;omega
theorem Zuz (b:Nat) (h:b< 256):nv (strOfNums [(b:Int)])=b:=by
 simp [nv,nvl,strOfNums_data];omega
theorem ZvL:Tryz.prog.underlying 5=some (.int .u8):=by kernel_rfl
theorem ZqR:Tryz.prog.underlying 178=some (.slice 5):=by kernel_rfl
theorem ZvM:Tryz.prog.underlying 9=some .string:=by kernel_rfl
theorem Zv1:(Tryz.prog.underlying 3).isSome=true:=by kernel_rfl
theorem ZuJ {src dst:TypeId} {x:Int} {k':IntKind} (hs:(Tryz.prog.underlying src).isSome=true) (hd:Tryz.prog.underlying dst=some (.int k')) (y:Int) (hy:y=k'.wrap x) (k:K (one (.int k' y))):
  ∃ r,(∃ k',(Tryz.prog.underlying src).isSome=true∧Tryz.prog.underlying dst=some (.int k')∧r=one (.int k' (k'.wrap x)))∧K r:=⟨_,⟨k',hs,hd,rfl⟩,by subst hy;exact k⟩
theorem Zix (T:TypeId) (ox oy:Operand) (x y:Value):eqGuard .quo T ox oy x y=pure ():=rfl
theorem ZmM (T:TypeId) (x y:Int):binOp .quo T (.int .i64 x) (.int .i64 y)=Op.intDiv .quo .i64 x y:=rfl
theorem Zrg (T:TypeId) (ox oy:Operand) (n d:Nat) (hd:0< d) (hn:n< 9223372036854775808) (w:World):(do eqGuard .quo T ox oy (.int .i64 (n:Int)) (.int .i64 (d:Int));binOp .quo T (.int .i64 (n:Int)) (.int .i64 (d:Int)):Sem Value).run Tryz.prog w= .ok (.int .i64 ((n / d:Nat):Int)) w:=by
 have h0:¬ (d:Int)=0:=by omega
 have h1:n / d≤n:=Nat.div_le_self n d
 have e1:(n:Int).tdiv (d:Int)=((n / d:Nat):Int):=rfl
 have hb:Op.intDiv .quo .i64 (n:Int) (d:Int)=pure (.int .i64 ((n / d:Nat):Int)):=by
  unfold Op.intDiv
  rw [if_neg h0]
  show pure (Value.int .i64 (IntKind.i64.wrap ((n:Int).tdiv (d:Int))))=_
  rw [e1]
  generalize n / d=z at h1
  rw [wrap64 _ (by omega) (by omega)]
 rw [Zix,ZmM,hb]
 rfl
theorem Zwu {T:TypeId} {ox oy:Operand} {x y:Int} (n d:Nat) (hx:x=n) (hy:y=d) (hd:0< d) (hn:n< 9223372036854775808) (k:K (int ((n / d:Nat):Int))):AskB .quo T ox oy (.int .i64 x) (.int .i64 y) K:=by
 subst hx hy
 exact⟨_,⟨_,rfl,rfl,Zrg T ox oy n d hd hn⟩,k⟩
set_option maxHeartbeats 1000000 in
theorem ZiR (a:ByteArray) (ha:a.size≤1099511627776):Spec Tryz.prog Tab 35 [str a] (nst (rootN (nv a))):=by
 have zA:=Nat.le_trans (Zxh a) ha
 have hlt:nv a< 4 ^ (4*a.size):=by
  have:=Ze9 a
  rwa [show (4:Nat) ^ (4*a.size)=256 ^ a.size by rw [Nat.pow_mul]]
 obtain⟨N,hN⟩:∃ N,N=4*a.size:=⟨_,rfl⟩
 rw [← hN] at hlt
 generalize hA:nv a=A at*
 have hw0:IntKind.i64.wrap (IntKind.i64.wrap (4*((a.size:Nat):Int)) - 1)=(N:Int) - 1:=by rw [wrap64 (4*((a.size:Nat):Int)) (by omega) (by omega),wrap64 _ (by omega) (by omega)];omega
 refine Za Tryz.func35 rfl rfl Tryz.ntmps35 rfl (by kernel_rfl) rfl rfl ?_
 refine⟨Nat×Nat×Nat,fun s=> [(0,str a),(3,nst s.2.1),(4,nst s.2.2),(5,int ((N:Int) - 1 - (s.1:Int)))],fun _=> [],
  fun s=>s.1≤N∧s.2.1*s.2.1+s.2.2=A / 4 ^ (N - s.1)∧s.2.2≤2*s.2.1,fun s=>N - s.1,(0,0,0),?_,⟨Nat.zero_le _,?_,Nat.zero_le _⟩,fun s hs=> ?_⟩
 ·constructor<;>(repeat' (first|exact rfl|exact True.intro|apply And.intro))
  all_goals first
   |exact congrArg (fun b:ByteArray=>D.v (.string b)) ZU
   |exact congrArg (fun n:Int=>D.v (.int .i64 n)) (show (N:Int) - 1 - ((0:Nat):Int)=_ by rw [hw0];omega)
 ·simp only [Nat.sub_zero]
  rw [Nat.div_eq_of_lt hlt]
 obtain⟨j,r,s⟩:=s
 obtain⟨h1,h2,h3⟩:=hs
 simp only at h1 h2 h3
 refine⟨fun e=> ?_,fun e=> ?_⟩
 ·have hj:j< N:=by have:=of_decide_eq_true e;simp only at this;omega
  obtain⟨i,hi⟩:∃ i,i=N - 1 - j:=⟨_,rfl⟩
  have hi1:N - j=i+1:=by omega
  have hi2:N - (j+1)=i:=by omega
  have hii:(N:Int) - 1 - (j:Int)=(i:Int):=by omega
  rw [hi1] at h2
  have hvle:A / 4 ^ i≤A:=Nat.div_le_self _ _
  have hvle1:A / 4 ^ (i+1)≤A:=Nat.div_le_self _ _
  have hstep:=ZqU A i
  have hpair:=Zon A i
  have hb3:A / 4 ^ i % 4≤3:=by have:=Nat.mod_lt (A / 4 ^ i) (show 0< 4 by decide);omega
  obtain⟨b1,hb1⟩:∃ b,b=A / 2 ^ (2*i+1) % 2:=⟨_,rfl⟩
  obtain⟨b0,hb0⟩:∃ b,b=A / 2 ^ (2*i) % 2:=⟨_,rfl⟩
  rw [← hb1,← hb0] at hpair
  obtain⟨b,hb⟩:∃ b,b=A / 4 ^ i % 4:=⟨_,rfl⟩
  rw [← hb] at hstep hpair hb3
  have hsq:=ZxD r
  have hrA:r≤A:=by omega
  have hsA:s≤A:=by omega
  have zr:=Nat.le_trans (Zhu hrA) zA
  have zs:=Nat.le_trans (Zhu hsA) zA
  have z1:=Zly r
  have z2:=Zly s
  have z3:=Zly (r+r)
  have z4:=Zly (s+s)
  have z5:=Zlz (s+s+(s+s)) b
  have z6:=Zlz (r+r+(r+r)) 1
  have z7:bz b≤1:=Zvu.2 (by omega)
  have z8:=Zxg
  obtain⟨st1,st2⟩:=Zn4 h2 h3 hb3
  have cast:∀ (x k:Nat),bz x≤k→(enc x).size≤k:=fun _ _ h=>h
  refine ZcX r r (Zd r) (Zd r) (cast r _ (by omega)) (cast r _ (by omega)) ?_
  refine ZcX s s (Zd s) (Zd s) (cast s _ (by omega)) (cast s _ (by omega)) ?_
  refine ZcX (s+s) (s+s) (Zd _) (Zd _) (cast _ _ (by omega)) (cast _ _ (by omega)) ?_
  have hw1:IntKind.i64.wrap (2*((N:Int) - 1 - (j:Int)))=((2*i:Nat):Int):=by rw [hii,wrap64 _ (by omega) (by omega)];omega
  have hw2:IntKind.i64.wrap (IntKind.i64.wrap (2*((N:Int) - 1 - (j:Int)))+1)=((2*i+1:Nat):Int):=by rw [hw1,wrap64 _ (by omega) (by omega)];omega
  refine ZtS A (2*i+1) hA hw2 (by omega) (by omega) ?_
  refine ZtS A (2*i) hA hw1 (by omega) (by omega) ?_
  rw [← hb1,← hb0]
  have hw3:IntKind.i64.wrap (IntKind.i64.wrap (2*(b1:Int))+(b0:Int))=(b:Int):=by
   rw [wrap64 (2*(b1:Int)) (by omega) (by omega),wrap64 _ (by omega) (by omega)];omega
  refine ZuJ Zv1 ZvL (b:Int) (by rw [hw3];unfold IntKind.wrap;simp [IntKind.signed,IntKind.bits];omega) ?_
  refine⟨_,⟨5, [(b:Int)],rfl,ZqR,ZvL,ZvM,rfl⟩,?_⟩
  refine ZcX (s+s+(s+s)) b (Zd _) (Zuz b (by omega)) (cast _ _ (by omega)) (by rw [strOfNums_size];show 1≤_;decide) ?_
  refine ZcX (r+r) (r+r) (Zd _) (Zd _) (cast _ _ (by omega)) (cast _ _ (by omega)) ?_
  refine ZcX (r+r+(r+r)) 1 (Zd _) nv_one (cast _ _ (by omega)) (by decide) ?_
  refine Zmp (s+s+(s+s)+b) (r+r+(r+r)+1) (Zd _) (Zd _) (cast _ _ (by omega)) (cast _ _ (by omega)) fun c hc=> ?_
  have hwj:IntKind.i64.wrap ((N:Int) - 1 - (j:Int) - 1)=(N:Int) - 1 - ((j+1:Nat):Int):=by rw [wrap64 _ (by omega) (by omega)];omega
  refine⟨fun e2=> ?_,fun e2=> ?_⟩
  ·have hle:r+r+(r+r)+1≤s+s+(s+s)+b:=Zht.1 (by rw [← hc];exact of_decide_eq_true e2)
   refine ZcX (r+r) 1 (Zd _) nv_one (cast _ _ (by omega)) (by decide) ?_
   refine ZuS (s+s+(s+s)+b) (r+r+(r+r)+1) (Zd _) (Zd _) hle (cast _ _ (by omega)) (cast _ _ (by omega)) ?_
   have g1:=(st1 (by omega)).1
   have g2:=(st1 (by omega)).2
   refine⟨(j+1,r+r+1,s+s+(s+s)+b - (r+r+(r+r)+1)),⟨hj,?_,by simp only;omega⟩,by simp only;omega,?_⟩
   ·simp only
    rw [hi2,hstep,← g1]
    rw [show r+r+1=2*r+1 by omega,show s+s+(s+s)+b - (r+r+(r+r)+1)=4*s+b - (4*r+1) by omega]
   constructor<;>(repeat' (first|exact rfl|exact True.intro|apply And.intro))
   all_goals exact congrArg (fun n:Int=>D.v (.int .i64 n)) hwj.symm
  ·have hle:¬ (r+r+(r+r)+1≤s+s+(s+s)+b):=fun h=>of_decide_eq_false e2 (by rw [hc];exact Zht.2 h)
   have g1:=(st2 (by omega)).1
   have g2:=(st2 (by omega)).2
   refine⟨(j+1,r+r,s+s+(s+s)+b),⟨hj,?_,by simp only;omega⟩,by simp only;omega,?_⟩
   ·simp only
    rw [hi2,hstep,← g1]
    rw [show r+r=2*r by omega,show s+s+(s+s)+b=4*s+b by omega]
   constructor<;>(repeat' (first|exact rfl|exact True.intro|apply And.intro))
   all_goals exact congrArg (fun n:Int=>D.v (.int .i64 n)) hwj.symm
 ·have hj:j=N:=by have:=of_decide_eq_false e;simp only at this;omega
  subst hj
  rw [Nat.sub_self,Nat.pow_zero,Nat.div_one] at h2
  refine Eq.trans (b:=nst r) ?_ rfl
  have:IsRoot A r:=⟨by omega,by rw [Nat.add_mul,Nat.mul_add];omega⟩
  rw [Zjf this]
theorem Zis (n:Nat) (ha:nv a=n) (za:a.size≤1099511627776) (k:K (nst (rootN n))):Ask 35 [str a] K:=by
 subst ha;exact use (ZiR a za) rfl k
theorem Zmc (a:ByteArray):Spec Tryz.prog Tab 214 [str a] (nst (nv a)):=
 Zk (Zm Tryz.func214 rfl rfl) rfl rfl fun w _=>(ZM a w).mono fun _ _ h=>⟨h.1,h.2 ▸ Below.refl _ _⟩
theorem Zrp (c:Nat) (h1:1≤c) (hc:c≤140737488355328):Spec Tryz.prog Tab 215 [str ⟨#[0]⟩,int (c:Int)] (str ⟨(Lib.repeatL [0] c).toArray⟩):=by
 refine Zk (Zm Tryz.func215 rfl rfl) rfl rfl fun w _=> ?_
 by_cases h:c=1
 ·subst h
  exact(Tryz.strings_Repeat_one ⟨#[0]⟩ w).mono fun _ _ h=>⟨h.1,h.2 ▸ Below.refl _ _⟩
 ·exact(Tryz.strings_Repeat_main ⟨#[0]⟩ c w (by omega) (by omega) (by show 1*c≤_;omega) (by decide)).mono fun _ _ h=>h
theorem ZvE (ox oy:Operand) (s t:ByteArray) (h:s.size+t.size≤9223372036854775807) (w:World):(do eqGuard .add 9 ox oy (.string s) (.string t);binOp .add 9 (.string s) (.string t):Sem Value).run Tryz.prog w= .ok (.string (s++t)) w:=by
 simp [go_sem];omega
theorem Zpf {ox oy:Operand} {s t:ByteArray} (h:s.size+t.size≤9223372036854775807) (k:K (str (s++t))):AskB .add 9 ox oy (.string s) (.string t) K:=⟨_,⟨.string (s++t),rfl,rfl,ZvE ox oy s t h⟩,k⟩
theorem ZgT (c:Nat):nvl (Lib.repeatL [0] c)=0∧(Lib.repeatL [0] c).length=c:=by
 induction c with
 |zero=>exact⟨rfl,rfl⟩
 |succ c ih=>
  obtain⟨h1,h2⟩:=ih
  have e:Lib.repeatL [0] (c+1)=0 :: Lib.repeatL [0] c:=rfl
  rw [e,ZaU,h1,List.length_cons,h2]
  exact⟨by simp,rfl⟩
theorem Zq3 (c:Nat):(⟨#[1]⟩:ByteArray)++⟨(Lib.repeatL [0] c).toArray⟩=enc (256 ^ c):=by
 have hd:((⟨#[1]⟩:ByteArray)++⟨(Lib.repeatL [0] c).toArray⟩).data.toList=1 :: Lib.repeatL [0] c:=by
  simp [ByteArray.data_append]
 have hn:nv ((⟨#[1]⟩:ByteArray)++⟨(Lib.repeatL [0] c).toArray⟩)=256 ^ c:=by
  unfold nv
  rw [hd,ZaU,(ZgT c).1,(ZgT c).2];simp
 rw [← hn]
 refine(Zaz fun x r h=> ?_).symm
 rw [hd] at h
 injection h with h1 h2
 subst h1
 decide
set_option maxHeartbeats 1000000 in
theorem Zqy (a:ByteArray) (ha:a.size≤1099511627776):Spec Tryz.prog Tab 129 [str a] (nst (rootN (nv a))):=by
 have zA:=Nat.le_trans (Zxh a) ha
 generalize hA:nv a=A at*
 refine Za Tryz.func129 rfl rfl Tryz.ntmps129 rfl (by kernel_rfl) rfl rfl ?_
 refine use (Zmc a) rfl ?_
 rw [hA]
 refine Zsh A rfl (fun e1=> ?_) (fun e1=> ?_)
 ·refine⟨fun _=> ?_,fun e=>by simp at e⟩
  refine Eq.trans (b:=str ⟨#[]⟩) ?_ rfl
  have:rootN A=0:=(Zjf (a:=A) (r:=0) ⟨by omega,by omega⟩).symm
  rw [this]
  show str (enc 0)=_
  rw [ZU]
 refine⟨fun e=>by simp at e,fun _=> ?_⟩
 obtain⟨L,hL⟩:∃ L,L=bz A:=⟨_,rfl⟩
 have hAL:A< 256 ^ L:=Zvu.1 (by omega)
 have hL1:1≤L:=by
  rcases Nat.eq_zero_or_pos L with h|h
  ·rw [h] at hAL;simp at hAL;omega
  ·exact h
 obtain⟨c,hc⟩:∃ c,c=(L+1) / 2:=⟨_,rfl⟩
 have hw:IntKind.i64.wrap ((((enc A).size:Nat):Int)+1)=((L+1:Nat):Int):=by
  show IntKind.i64.wrap (((bz A:Nat):Int)+1)=_
  rw [← hL,wrap64 _ (by omega) (by omega)];omega
 refine Zwu (L+1) 2 hw rfl (by decide) (by omega) ?_
 rw [← hc]
 refine use (Zrp c (by omega) (by omega)) rfl ?_
 refine Zpf (by show 1+_≤_;have:=(ZgT c).2;simp only [ByteArray.size,List.size_toArray];omega) ?_
 rw [Zq3]
 have hbig:∀ r,r*r≤A→r≤256 ^ c:=by
  intro r hr
  refine Nat.le_of_not_lt fun h=> ?_
  have h1:256 ^ c*256 ^ c≤r*r:=Nat.mul_le_mul (by omega) (by omega)
  have h2:(256:Nat) ^ L≤256 ^ c*256 ^ c:=by rw [← Nat.pow_add];exact Nat.pow_le_pow_right (by decide) (by omega)
  omega
 refine⟨Nat,fun x=> [(0,nst A),(3,nst x)],fun _=> [],fun x=>0< x∧(∀ r,r*r≤A→r≤x)∧bz x≤L+2,fun x=>x,256 ^ c,?_,⟨Nat.pow_pos (by decide),hbig,?_⟩,fun x hs=> ?_⟩
 ·constructor<;>(repeat' (first|exact rfl|exact True.intro|apply And.intro))
 ·exact Zvu.2 (Nat.pow_lt_pow_right (by decide) (by omega))
 obtain⟨h1,h2,h3⟩:=hs
 have zq:=Zxi A x
 have zx:=Zlz x (A / x)
 have cast:∀ (x k:Nat),bz x≤k→(enc x).size≤k:=fun _ _ h=>h
 refine ZtT (a:=enc A) (b:=enc x) (cast _ _ (by omega)) (cast _ _ (by omega)) (by rw [Zd];exact h1) ?_
 rw [Zd,Zd]
 refine ZwD (a:=enc x) (b:=enc (A / x)) (cast _ _ (by omega)) (cast _ _ (by omega)) ?_
 rw [Zd,Zd]
 refine ZtT (a:=enc (x+A / x)) (b:=⟨#[2]⟩) (cast _ _ (by omega)) (by decide) (by decide) ?_
 rw [Zd,show nv ⟨#[2]⟩=2 by decide]
 refine Zpb ((x+A / x) / 2) x (Zd _) (Zd _) fun n hn=> ?_
 refine⟨fun e=> ?_,fun e=> ?_⟩
 ·have hle:x≤(x+A / x) / 2:=Zht.1 (by rw [← hn];exact of_decide_eq_true e)
  have hr:IsRoot A x:=⟨ZjB h1 hle,by
   refine Nat.lt_of_not_le fun h=> ?_
   have:=h2 (x+1) h;omega⟩
  refine Eq.trans (b:=nst x) ?_ rfl
  rw [Zjf hr]
 ·have hlt:(x+A / x) / 2< x:=Nat.lt_of_not_le fun h=>of_decide_eq_false e (by rw [hn];exact Zht.2 h)
  refine⟨(x+A / x) / 2,⟨newton h1 (r:=1) (by omega),fun r hr=>newton h1 hr,?_⟩,hlt,?_⟩
  ·exact Nat.le_trans (Zhu (Nat.le_of_lt hlt)) h3
  constructor<;>(repeat' (first|exact rfl|exact True.intro|apply And.intro))
end
end Go.Proofs.YtpfemjpgbpnpkaaGreatDoor.eng
