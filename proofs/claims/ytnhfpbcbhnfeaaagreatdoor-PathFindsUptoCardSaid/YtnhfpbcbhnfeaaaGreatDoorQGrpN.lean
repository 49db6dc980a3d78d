/- Joined by wip/bundle.py: XEngN3 XEngN3b XSub32 XEngN3c XEngN3d XEngN3e XEngN3f XEngN3g XEngN3h XEngN3i. -/
import Derived.Test.YtnhfpbcbhnfeaaaGreatDoorQGrpA
set_option maxHeartbeats 2000000
set_option maxRecDepth 100000
open List (replicate length_append length_cons length_nil length_set map_map)
namespace Go.Proofs.YtnhfpbcbhnfeaaaGreatDoor.eng
open Go.RowKit num mem seg q held ratA ratB ratC ratD ratE vars ratF
def W(l:List Nat):List (List D):=l.map fun (x:Nat)=>[D.v (.int .u32 (x:Int))]
def n3(n:Nat):AV:=.val (.one (.d (.list (W (w32 n)))))
def u32v(n:Int):AV:=.val (.one (.d (.v (.int .u32 n))))
def u64v(n:Int):AV:=.val (.one (.d (.v (.int .u64 n))))
theorem Znv(l:List Nat):(W l).length=l.length:=by simp[W]
theorem W_at{l:List Nat}{i x:Nat}(h:l[i]? =some x):(W l)[i]? =some [D.v (.int .u32 (x:Int))]:=by simp[W,h]
theorem Zfz(l:List Nat)(i x:Nat):(W l).set i [D.v (.int .u32 (x:Int))]=W (l.set i x):=by simp[W,List.map_set]
theorem ZhA(n:Nat):replicate n [D.v (.int .u32 0)]=W (replicate n 0):=by simp[W]
theorem Zzt(l:List Nat)(k:Nat):(W l).take k=W (l.take k):=by simp[W,List.map_take]
theorem Zzu(l:List Nat):∀r,r∈W l->r.length=1:=by
 intro r hr;obtain⟨x,_,rfl⟩:=List.mem_map.1 hr;rfl
theorem Zab{n i:Nat}(h:i<wlen 4 n):(w32 n)[i]? =some (n/4294967296^i%4294967296):=by
 unfold w32 dg;rw[List.getElem?_map,List.getElem?_range h];rfl
theorem Zan(n:Nat):(W (w32 n)).length=wlen 4 n:=by rw[Znv,Zi]
theorem Zgp{l:List Nat}(hl:∀d,d∈l->d<4294967296)(ht:∀d t,l=t++[d]->d≠0):w32 (lv 4294967296 l)=l:=by
 have hlt:=ZdI (B:=4294967296) (l:=l) hl;have h1:wlen 4 (lv 4294967296 l)<=l.length:=(ZaB ω).2 (by simpa using hlt);have h2:l.length<=wlen 4 (lv 4294967296 l):=by
  rcases List.eq_nil_or_concat l with rfl|⟨t,d,e⟩
  .exact Nat.zero_le _
  .have e:l=t++[d]:=by simpa using e
   have hd:=ht d t e;apply Nat.le_of_not_lt;intro hcon;have h3:wlen 4 (lv 4294967296 l)<=t.length:=by rw[e]at hcon;simp at hcon;rw[e];omega
   have h4:=(ZaB ω).1 h3;rw[e,ZbP]at h4;have:4294967296^t.length*1<=4294967296^t.length*d:=Nat.mul_le_mul_left _ ω;simp only[show (256:Nat)^4=4294967296 from rfl]at h4;omega
 have h3:wlen 4 (lv 4294967296 l)=l.length:=Nat.le_antisymm h1 h2;unfold w32;rw[h3];exact Zza ω hl
theorem wu64{m:Int}(h0:0<=m)(h1:m<18446744073709551616):IntKind.u64.wrap m=m:=by
 unfold IntKind.wrap;simp[IntKind.signed,IntKind.bits];omega
theorem wu32{m:Int}(h0:0<=m)(h1:m<4294967296):IntKind.u32.wrap m=m:=by
 unfold IntKind.wrap;simp[IntKind.signed,IntKind.bits];omega
theorem Zsb(n:Nat):IntKind.u32.wrap (n:Int)=((n%4294967296:Nat):Int):=by
 unfold IntKind.wrap;simp[IntKind.signed,IntKind.bits]
section
variable{K:AV->Prop}{a b n m:Nat}
theorem Zdg{src dst:TypeId}{x:Int}{k':IntKind}(hs:(Tryz.prog.underlying src).isSome=true)(hd:Tryz.prog.underlying dst=some (.int k'))(y:Int)(hy:y=k'.wrap x)(k:K (one (.int k' y))):
  ∃r,(∃k',(Tryz.prog.underlying src).isSome=true/\Tryz.prog.underlying dst=some (.int k')/\r=one (.int k' (k'.wrap x)))/\K r:=⟨_,⟨k',hs,hd,rfl⟩,by subst hy;exact k⟩
theorem u_u8:Tryz.prog.underlying 5=some (.int .u8):=ωr
theorem ZvR:Tryz.prog.underlying 151=some (.int .u32):=ωr
theorem ZvQ:Tryz.prog.underlying 152=some (.int .u64):=ωr
theorem Zzz:Tryz.prog.underlying 3=some (.int .i64):=ωr
theorem s_u8:(Tryz.prog.underlying 5).isSome=true:=by rw[u_u8];rfl
theorem Zx2:(Tryz.prog.underlying 151).isSome=true:=by rw[ZvR];rfl
theorem ZzH:(Tryz.prog.underlying 152).isSome=true:=by rw[ZvQ];rfl
theorem Zx3:(Tryz.prog.underlying 3).isSome=true:=by rw[Zzz];rfl
theorem ZiB{x:Int}(n:Nat)(hx:x=n)(hn:n<18446744073709551616)(k:K (u64v (n:Int))):
  ∃r,(∃k',(Tryz.prog.underlying 151).isSome=true/\Tryz.prog.underlying 152=some (.int k')/\r=one (.int k' (k'.wrap x)))/\K r:=
 Zdg Zx2 ZvQ (n:Int) (by rw[hx,wu64 ω ω]) k
theorem Zde{x:Int}(n:Nat)(hx:x=n)(k:K (u32v ((n%4294967296:Nat):Int))):
  ∃r,(∃k',(Tryz.prog.underlying 152).isSome=true/\Tryz.prog.underlying 151=some (.int k')/\r=one (.int k' (k'.wrap x)))/\K r:=
 Zdg ZzH ZvR _ (by rw[hx,Zsb]) k
theorem ZoV(T:TypeId)(ox oy:Operand)(n:Nat)(w:World):(do eqGuard .shr T ox oy (.int .u64 (n:Int)) (.int .u64 32);binOp .shr T (.int .u64 (n:Int)) (.int .u64 32):Sem Value).run Tryz.prog w= .ok (.int .u64 ((n/4294967296:Nat):Int)) w:=by
 simp[go_sem]
theorem Zbw{T:TypeId}{ox oy:Operand}{x:Int}(n:Nat)(hx:x=n)(k:K (u64v ((n/4294967296:Nat):Int))):AskB .shr T ox oy (.int .u64 x) (.int .u64 32) K:=by
 subst hx;exact⟨_,⟨_,rfl,rfl,ZoV T ox oy n⟩,k⟩
end
theorem Zn9(l:List Nat)(hl:∀d,d∈l->d<4294967296)(hn:l.length<=1099511627776):Spec Tryz.prog Tab 88 [.val (.one (.d (.list (W l))))] (n3 (lv 4294967296 l)):=by
 refine Zb Tryz.func88 Tryz.ntmps88 ?_;refine⟨List Nat,fun s=>[(0,.val (.one (.d (.list (W s)))))],fun _=>[],fun s=>lv 4294967296 s=lv 4294967296 l/\(∀d,d∈s->d<4294967296)/\s.length<=l.length,fun s=>s.length,l,?_,⟨rfl,hl,Nat.le_refl _⟩,fun s hs=>?_⟩
 .exact ωE
 obtain⟨h1,h2,h3⟩:=hs;refine fork (fun e=>?_) (fun e=>?_)
 .have e':=oT e;rw[Znv]at e';obtain⟨t,d,rfl⟩:∃t d,s=t++[d]:=by
   rcases List.eq_nil_or_concat s with rfl|⟨t,d,h⟩
   .simp at e'
   .exact⟨t,d,by simpa using h⟩
  have hlen:((W (t++[d])).length:Int)=(t.length:Int)+1:=by rw[Znv];simp
  have hw:IntKind.i64.wrap (((W (t++[d])).length:Int)-1)=(t.length:Int):=by rw[hlen,wrap64 _ ω (by simp at h3;omega)];omega
  refine k_at [D.v (.int .u32 (d:Int))] (by rw[hw];omega) (by rw[hw];exact W_at (by simp)) rfl ⟨fun e2=>?_,fun e2=>?_⟩
  .have hd0:d=0:=by have:=oT e2;simp at e2;omega
   refine⟨_,⟨by rw[hw];omega,by rw[hw,hlen];omega,Zzu _,rfl⟩,⟨t,⟨by rw[<-h1,ZbP,hd0];simp,fun x hx=>h2 x (by simp[hx]),by simp at h3;omega⟩,by simp,?_⟩⟩;constructor<;>(repeat' (first|exact rfl|exact True.intro|apply And.intro));rw[hw,Int.toNat_natCast,Zzt,List.take_left];exact rfl
  .refine Eq.trans (b:=.val (.one (.d (.list (W (t++[d])))))) ?_ rfl;have hd0:d≠0:=by intro h;subst h;simp at e2
   rw[n3,<-h1,Zgp h2 (fun x t' h=>by
    have:=List.append_inj' h rfl;simp at this;rw[<-this.2];exact hd0)]
 .refine⟨fun e=>by simp at e,fun _=>?_⟩;have e':=oF e;rw[Znv]at e';have hs0:s= []:=List.eq_nil_of_length_eq_zero ω;subst hs0;refine Eq.trans (b:=.val (.one (.d (.list (W []))))) ?_ rfl;rw[n3,<-h1,Zgp h2 (fun x t' h=>by simp at h)]
theorem Zd2{K:AV->Prop}(l:List Nat){vv:List (List D)}(hv:vv=W l)(hl:∀d,d∈l->d<4294967296)(hn:l.length<=1099511627776)(k:K (n3 (lv 4294967296 l))):Ask 88 [.val (.one (.d (.list vv)))] K:=by
 subst hv;exact use (Zn9 l hl hn) rfl k
theorem wlen_mono{a b:Nat}(h:a<=b):wlen 4 a<=wlen 4 b:=(ZaB ω).2 (Nat.lt_of_le_of_lt h (ZcL ω))
theorem lt_B(n:Nat):n<4294967296^wlen 4 n:=by have:=@ZcL 4 n ω;simpa using this
theorem Zrh(n:Nat):n/4294967296^wlen 4 n=0:=Nat.div_eq_of_lt (lt_B n)
theorem Zdq(a i:Nat):a/4294967296^i=a/4294967296^(i+1)*4294967296+a/4294967296^i%4294967296:=by
 rw[Nat.pow_succ,<-Nat.div_div_eq_div_mul];have:=Nat.div_add_mod (a/4294967296^i) 4294967296;omega
theorem ZzV{a b i:Nat}(h:a/4294967296^(i+1)=b/4294967296^(i+1))(hd:a/4294967296^i%4294967296=b/4294967296^i%4294967296):a/4294967296^i=b/4294967296^i:=by
 rw[Zdq a i,Zdq b i,h,hd]
theorem Zy2{a b i:Nat}(h:a/4294967296^(i+1)=b/4294967296^(i+1))(hd:a/4294967296^i%4294967296<b/4294967296^i%4294967296):a<b:=by
 have h1:a/4294967296^i<b/4294967296^i:=by rw[Zdq a i,Zdq b i,h];omega
 apply Nat.lt_of_not_le;intro hc;have:=Nat.div_le_div_right (c:=4294967296^i) hc;omega
def cmp3(a b:Nat):Int:=if wlen 4 a=wlen 4 b then (if a<b then -1 else if b<a then 1 else 0) else (wlen 4 a:Int)-(wlen 4 b:Int)
theorem Zry(a b:Nat):0<=cmp3 a b↔b<=a:=by
 unfold cmp3;split
 .split
  .omega
  .split<;>omega
 .rename_i h;rcases Nat.lt_or_ge a b with h1|h1
  .have:=wlen_mono (Nat.le_of_lt h1);omega
  .have:=wlen_mono h1;omega
theorem Zfj(a b:Nat)(ha:wlen 4 a<=1099511627776)(hb:wlen 4 b<=1099511627776):Spec Tryz.prog Tab 115 [n3 a,n3 b] (int (cmp3 a b)):=by
 have la:=Zan a;have lb:=Zan b;refine Zb Tryz.func115 Tryz.ntmps115 ?_;refine⟨fun e=>?_,fun e=>?_⟩
 .refine Eq.trans (b:=int (IntKind.i64.wrap (((W (w32 a)).length:Int)-((W (w32 b)).length:Int)))) ?_ rfl;have hne:wlen 4 a≠wlen 4 b:=by intro h;rw[la,lb,h]at e;simp at e
  rw[la,lb,wrap64 _ ω ω,cmp3,if_neg hne]
 have heq:wlen 4 a=wlen 4 b:=by
  rw[la,lb]at e;have:((wlen 4 a:Int) !=(wlen 4 b:Int))=false:=e;simp at this;omega
 refine⟨Nat,fun k=>[(0,n3 a),(1,n3 b),(5,int ((k:Int)-1))],fun _=>[],fun k=>k<=wlen 4 a/\a/4294967296^k=b/4294967296^k,fun k=>k,wlen 4 a,?_,⟨Nat.le_refl _,by rw[Zrh,heq,Zrh]⟩,fun k hs=>?_⟩
 .constructor<;>(repeat' apply And.intro)<;>first|exact ωq|exact congrArg (fun n:Int=>D.v (.int .i64 n)) (by rw[la,wrap64 _ ω ω])
 obtain⟨hk,hq⟩:=hs;refine⟨fun e=>?_,fun e=>?_⟩
 .have e':=oT e;obtain⟨i,rfl⟩:∃i,k=i+1:=⟨k-1,ω⟩;have hi:(((i+1:Nat):Int)-1).toNat=i:=ω;refine k_at [D.v (.int .u32 ((a/4294967296^i%4294967296:Nat):Int))] ω (by rw[hi];exact W_at (Zab ω)) rfl<|k_at [D.v (.int .u32 ((b/4294967296^i%4294967296:Nat):Int))] ω (by rw[hi];exact W_at (Zab ω)) rfl ⟨ωr,⟨fun e2=>?_,fun e2=>?_⟩⟩
  .refine k_at [D.v (.int .u32 ((a/4294967296^i%4294967296:Nat):Int))] ω (by rw[hi];exact W_at (Zab ω)) rfl<|k_at [D.v (.int .u32 ((b/4294967296^i%4294967296:Nat):Int))] ω (by rw[hi];exact W_at (Zab ω)) rfl ⟨ωr,?_⟩;have hne:a/4294967296^i%4294967296≠b/4294967296^i%4294967296:=by
    intro h;rw[h]at e2;simp at e2
   refine⟨fun e3=>?_,fun e3=>?_⟩
   .refine Eq.trans (b:=int (-1)) ?_ rfl;have h3:=oT e3;rw[cmp3,if_pos heq,if_pos (Zy2 hq ω)]
   .refine Eq.trans (b:=int 1) ?_ rfl;have h3:=oF e3;have h4:=Zy2 hq.symm ω;rw[cmp3,if_pos heq,if_neg ω,if_pos h4]
  .have heq2:a/4294967296^i%4294967296=b/4294967296^i%4294967296:=by
    have:(((a/4294967296^i%4294967296:Nat):Int) !=((b/4294967296^i%4294967296:Nat):Int))=false:=e2;simp only[bne_eq_false_iff_eq]at this;omega
   exact⟨i,⟨ω,ZzV hq heq2⟩,Nat.lt_succ_self i,ωE⟩
 .have e':=oF e;have hk0:k=0:=ω;subst hk0;simp only[Nat.pow_zero,Nat.div_one]at hq;refine Eq.trans (b:=int 0) ?_ rfl;rw[cmp3,if_pos heq,hq];simp
theorem Zqu{K:AV->Prop}{a b:Nat}(ha:wlen 4 a<=1099511627776)(hb:wlen 4 b<=1099511627776)(k:∀v,(0<=v↔b<=a)->K (int v)):Ask 115 [n3 a,n3 b] K:=
 use (Zfj a b ha hb) rfl (k _ (Zry a b))
end Go.Proofs.YtnhfpbcbhnfeaaaGreatDoor.eng
namespace Go.Proofs.YtnhfpbcbhnfeaaaGreatDoor.sub32
open Go.RowKit num mem
theorem ZvS{m:Nat}(h:m<4294967296):m/2147483648=(m.testBit 31).toNat:=by
 rw[Nat.testBit_eq_decide_div_mod_eq];have h1:m/2^31=m/2147483648:=rfl;rw[h1];have h2:m/2147483648<2:=ω;by_cases h3:m/2147483648%2=1
 .rw[decide_eq_true h3];show _=1;omega
 .rw[decide_eq_false h3];show _=0;omega
theorem bit31{m:Nat}(h:m<4294967296):m.testBit 31=decide (2147483648<=m):=by
 rw[Nat.testBit_eq_decide_div_mod_eq,decide_eq_decide];have h1:m/2^31=m/2147483648:=rfl;rw[h1];omega
def dif(x y b:Nat):Nat:=(x+4294967296-y-b)%4294967296
theorem ZlV(x y b:Nat):dif x y b<4294967296:=Nat.mod_lt _ ω
theorem borrow(x y b:Nat)(hx:x<4294967296)(hy:y<4294967296)(hb:b<=1):
  (((4294967295 ^^^ x)&&&y)|||((4294967295 ^^^ (x ^^^ y))&&&dif x y b))/2147483648=if x<y+b then 1 else 0:=by
 have hd:=ZlV x y b;have h1:(4294967295 ^^^ x)&&&y<2^32:=Nat.and_lt_two_pow _ ω;have h2:(4294967295 ^^^ (x ^^^ y))&&&dif x y b<2^32:=Nat.and_lt_two_pow _ ω;rw[ZvS (by have:=Nat.or_lt_two_pow h1 h2;omega)];have h3:(4294967295:Nat).testBit 31=true:=ωd;simp only[Nat.testBit_or,Nat.testBit_and,Nat.testBit_xor,h3,bit31 hx,bit31 hy,bit31 hd];unfold dif;by_cases c1:2147483648<=x<;>by_cases c2:2147483648<=y<;>by_cases c3:2147483648<=(x+4294967296-y-b)%4294967296<;>by_cases c4:x<y+b<;>simp[c1,c2,c3,c4]<;>omega
def bw(x y b:Nat):Nat:=if x<y+b then 1 else 0
theorem Zsc(x y b:Nat)(hx:x<4294967296)(hy:y<4294967296)(hb:b<=1):IntKind.u32.wrap (IntKind.u32.wrap ((x:Int)-(y:Int))-(b:Int))=(dif x y b:Int):=by
 rw[IntKind.wrap_u32,IntKind.wrap_u32];unfold dif;omega
theorem ZrT(x y b:Nat)(w:World)(hx:x<4294967296)(hy:y<4294967296)(hb:b<=1):
  Calls Tryz.prog 174 #[.int .u32 x,.int .u32 y,.int .u32 b] w fun e w'=>e= .returned (.tuple #[.int .u32 (dif x y b:Int),.int .u32 (bw x y b:Int)])/\w=w':=by
 have hd:=ZlV x y b;have e1:=Zsc x y b hx hy hb;have x1:4294967295 ^^^ x<4294967296:=by have:=Nat.xor_lt_two_pow (n:=32) (x:=4294967295) (y:=x) ω ω;omega
 have x2:x ^^^ y<4294967296:=by have:=Nat.xor_lt_two_pow (n:=32) (x:=x) (y:=y) ω ω;omega
 have x3:4294967295 ^^^ (x ^^^ y)<4294967296:=by have:=Nat.xor_lt_two_pow (n:=32) (x:=4294967295) (y:=x ^^^ y) ω ω;omega
 have x4:(4294967295 ^^^ x)&&&y<4294967296:=by have:=Nat.and_lt_two_pow (n:=32) (4294967295 ^^^ x) (y:=y) ω;omega
 have x5:(4294967295 ^^^ (x ^^^ y))&&&dif x y b<4294967296:=by have:=Nat.and_lt_two_pow (n:=32) (4294967295 ^^^ (x ^^^ y)) (y:=dif x y b) ω;omega
 have b1:=u32_xor_nat 4294967295 x ω hx;have b2:=u32_and_nat (4294967295 ^^^ x) y x1 hy;have b3:=u32_xor_nat x y hx hy;have b4:=u32_xor_nat 4294967295 (x ^^^ y) ω x2;have b5:=u32_and_nat (4294967295 ^^^ (x ^^^ y)) (dif x y b) x3 hd;have b6:=u32_or_nat _ _ x4 x5;have hbw:_=bw x y b:=borrow x y b hx hy hb
 go_enter Tryz.func174,Tryz.ntmps174
 go_wp2_with fail
 all_goals first
  |(rename_i h;exact absurd h ωd)
  |(simp[bodyPost,results,Tryz.results174,go_sem]
    have e2:((x:Int)-(y:Int)-(b:Int))%4294967296=(dif x y b:Int):=by unfold dif;omega
    refine⟨e2,?_⟩;rw[e2,show IntKind.u32.max=((4294967295:Nat):Int) from rfl,b1,b2,b4,b5,b6];rw[<-hbw];rfl)
end Go.Proofs.YtnhfpbcbhnfeaaaGreatDoor.sub32
namespace Go.Proofs.YtnhfpbcbhnfeaaaGreatDoor.eng
open Go.RowKit num mem seg q held ratA ratB ratC ratD ratE vars ratF sub32
def rowN(Z:List Nat)(N:Nat):List (List D):=W (Z++replicate (N-Z.length) 0)
theorem ZgO(N:Nat):replicate N [D.v (.int .u32 0)]=rowN [] N:=by unfold rowN;rw[ZhA];rfl
theorem ZsK{Z:List Nat}{N:Nat}(h:Z.length<=N):(rowN Z N).length=N:=by unfold rowN;rw[Znv,length_append,List.length_replicate];omega
theorem Zaa{Z:List Nat}{N:Nat}(h:Z.length<N):Z.length<(rowN Z N).length:=by rw[ZsK (Nat.le_of_lt h)];exact h
theorem Zbc{Z:List Nat}{N:Nat}(h:Z.length<N)(d:Nat):(rowN Z N).set Z.length [D.v (.int .u32 (d:Int))]=rowN (Z++[d]) N:=by
 unfold rowN;rw[Zfz,List.set_append_right _ _ (Nat.le_refl _),Nat.sub_self];have h2:N-Z.length=(N-(Z++[d]).length)+1:=by simp;omega
 rw[h2,List.replicate_succ];simp
theorem ZgP{Z:List Nat}{N:Nat}(h:Z.length=N):rowN Z N=W Z:=by unfold rowN;rw[h,Nat.sub_self];simp
theorem ZH(n i:Nat):(w32 n).getD i 0=if i<wlen 4 n then n/4294967296^i%4294967296 else 0:=by
 split
 .rename_i h;rw[List.getD_eq_getElem?_getD,Zab h];rfl
 .rename_i h;rw[List.getD_eq_getElem?_getD,List.getElem?_eq_none (by rw[Zi];omega)];rfl
theorem dig_lt(n i:Nat):n/4294967296^i%4294967296<4294967296:=Nat.mod_lt _ ω
theorem ZT(n k:Nat)(h:wlen 4 n<=k):lv 4294967296 ((w32 n).take k)=n:=by
 rw[List.take_of_length_le (by rw[Zi];exact h),Zbg]
theorem k_at_own'{K:AV->Prop}{xs:List (List D)}{m:Int}{o v n:Nat}(i:Nat)(hm:m=(i:Int))(h:i<xs.length)(k:K (.val (.one (.rp o v n i 0)))):
  ∃r,(0<=m/\m<(xs.length:Int)/\r= .val (.one (.rp o v n m.toNat 0)))/\K r:=⟨_,⟨ω,ω,rfl⟩,by subst hm;exact k⟩
theorem Zi7(a b:Nat)(hab:wlen 4 b<=wlen 4 a)(ha:wlen 4 a<=549755813888)(x y:Nat)(hxy:(x=a/\y=b)\/(x=b/\y=a/\wlen 4 b<wlen 4 a)):Spec Tryz.prog Tab 114 [n3 x,n3 y] (n3 (a+b)):=by
 have la:=Zan a;have lb:=Zan b;have hsum:a+b<4294967296^(wlen 4 a+1):=by
  have h1:=lt_B a;have h2:b<4294967296^wlen 4 a:=Nat.lt_of_lt_of_le (lt_B b) (Nat.pow_le_pow_right ω hab);rw[Nat.pow_succ];omega
 refine Zb Tryz.func114 Tryz.ntmps114 ?_;rcases hxy with ⟨rfl,rfl⟩|⟨rfl,rfl,hlt⟩
 .refine⟨fun e=>?_,fun e=>?_⟩
  .have e':=oT e;rw[la,lb]at e';omega
  .have h0:((W (w32 x)).length:Int)+1=((wlen 4 x+1:Nat):Int):=by rw[la];omega
   have hw0:IntKind.i64.wrap (((W (w32 x)).length:Int)+1)=((wlen 4 x+1:Nat):Int):=by rw[h0,wrap64 _ ω ω]
   refine⟨⟨by rw[hw0];omega,rfl,by rw[hw0];show ((wlen 4 x+1:Nat):Int)*((4:Nat):Int)<=_;omega,by rw[hw0];omega⟩,?_⟩;refine⟨Nat×List Nat,fun s=>[(0,n3 x),(1,n3 y),(5,.val (.one (.row 18 0))),(6,u64v (s.1:Int)),(20,int ((wlen 4 x+1:Nat):Int)),(21,int (s.2.length:Int))],
    fun s=>[(18,.row 151 1 0 (rowN s.2 (wlen 4 x+1)) true)],
    fun s=>s.2.length<=wlen 4 x+1/\s.1<=1/\(∀d,d∈s.2->d<4294967296)/\lv 4294967296 s.2+s.1*4294967296^s.2.length=lv 4294967296 ((w32 x).take s.2.length)+lv 4294967296 ((w32 y).take s.2.length),
    fun s=>wlen 4 x+1-s.2.length,(0, []),?_,⟨Nat.zero_le _,Nat.zero_le _,fun d hd=>by simp at hd,by simp[lv]⟩,fun s hs=>?_⟩
   .constructor<;>(repeat' apply And.intro)<;>first|exact ωq|(rw[hw0,Int.toNat_natCast];exact(ZgO _).symm)|(rw[hw0,Int.toNat_natCast,List.length_replicate];exact rfl)|(rw[hw0,Int.toNat_natCast];exact rfl)
   obtain⟨c,Z⟩:=s;obtain⟨h1,h2,h3,h4⟩:=hs;simp only at h1 h2 h3 h4;refine⟨fun e1=>?_,fun e1=>?_⟩
   .have hz:Z.length<wlen 4 x+1:=by have:=oT e1;simp only at this;omega
    have hwi:IntKind.i64.wrap ((Z.length:Int)+1)=((Z.length+1:Nat):Int):=by rw[wrap64 _ ω ω];omega
    have da:=dig_lt x Z.length;have db:=dig_lt y Z.length;refine⟨fun e2=>?_,fun e2=>?_⟩
    .have g1:Z.length<wlen 4 x:=by have:=oT e2;simp only[la]at this;omega
     refine k_at [D.v (.int .u32 ((x/4294967296^Z.length%4294967296:Nat):Int))] (Int.natCast_nonneg _) (by rw[Int.toNat_natCast];exact W_at (Zab g1)) rfl<|ZiB (x/4294967296^Z.length%4294967296) rfl ω ⟨fun e3=>?_,fun e3=>?_⟩
     .have g2:Z.length<wlen 4 y:=by have:=oT e3;simp only[lb]at this;omega
      refine k_at [D.v (.int .u32 ((y/4294967296^Z.length%4294967296:Nat):Int))] (Int.natCast_nonneg _) (by rw[Int.toNat_natCast];exact W_at (Zab g2)) rfl<|ZiB (y/4294967296^Z.length%4294967296) rfl ω ?_;have hraw:IntKind.u64.wrap (IntKind.u64.wrap ((c:Int)+((x/4294967296^Z.length%4294967296:Nat):Int))+((y/4294967296^Z.length%4294967296:Nat):Int))=((c+x/4294967296^Z.length%4294967296+y/4294967296^Z.length%4294967296:Nat):Int):=by rw[wu64 (m:=(c:Int)+_) ω ω,wu64 ω ω];omega
      refine Zde (c+x/4294967296^Z.length%4294967296+y/4294967296^Z.length%4294967296) hraw<|Zbw (c+x/4294967296^Z.length%4294967296+y/4294967296^Z.length%4294967296) hraw<|k_at_own' Z.length rfl (Zaa hz) ⟨Zaa hz,?_⟩;have hstep:=Zay (B:=4294967296) (Z:=Z) (X:=w32 x) (Y:=w32 y) (n:=(c+x/4294967296^Z.length%4294967296+y/4294967296^Z.length%4294967296)%4294967296) (C:=(c+x/4294967296^Z.length%4294967296+y/4294967296^Z.length%4294967296)/4294967296) rfl h4 (by rw[ZH,ZH,if_pos g1,if_pos g2];omega);refine⟨((c+x/4294967296^Z.length%4294967296+y/4294967296^Z.length%4294967296)/4294967296,Z++[(c+x/4294967296^Z.length%4294967296+y/4294967296^Z.length%4294967296)%4294967296]),⟨by simp only[length_append,length_cons,length_nil];omega,by simp only;omega,ZE h3 (Nat.mod_lt _ ω),by simpa only[length_append,length_cons,length_nil]using hstep⟩,by simp only[length_append,length_cons,length_nil];omega,?_⟩;constructor<;>(repeat' apply And.intro)<;>first|exact ωq|exact(Zbc hz _).symm|exact congrArg (fun n:Int=>D.v (.int .i64 n)) (by rw[hwi];simp)
     .have g2:¬Z.length<wlen 4 y:=by have:=oF e3;simp only[lb]at this;omega
      have hraw:IntKind.u64.wrap ((c:Int)+((x/4294967296^Z.length%4294967296:Nat):Int))=((c+x/4294967296^Z.length%4294967296:Nat):Int):=by rw[wu64 ω ω];omega
      refine Zde (c+x/4294967296^Z.length%4294967296) hraw<|Zbw (c+x/4294967296^Z.length%4294967296) hraw<|k_at_own' Z.length rfl (Zaa hz) ⟨Zaa hz,?_⟩;have hstep:=Zay (B:=4294967296) (Z:=Z) (X:=w32 x) (Y:=w32 y) (n:=(c+x/4294967296^Z.length%4294967296)%4294967296) (C:=(c+x/4294967296^Z.length%4294967296)/4294967296) rfl h4 (by rw[ZH,ZH,if_pos g1,if_neg g2];omega);refine⟨((c+x/4294967296^Z.length%4294967296)/4294967296,Z++[(c+x/4294967296^Z.length%4294967296)%4294967296]),⟨by simp only[length_append,length_cons,length_nil];omega,by simp only;omega,ZE h3 (Nat.mod_lt _ ω),by simpa only[length_append,length_cons,length_nil]using hstep⟩,by simp only[length_append,length_cons,length_nil];omega,?_⟩;constructor<;>(repeat' apply And.intro)<;>first|exact ωq|exact(Zbc hz _).symm|exact congrArg (fun n:Int=>D.v (.int .i64 n)) (by rw[hwi];simp)
    .have g1:¬Z.length<wlen 4 x:=by have:=oF e2;simp only[la]at this;omega
     have g2:¬Z.length<wlen 4 y:=ω;refine⟨fun e3=>?_,fun e3=>?_⟩
     .exact absurd (oT e3) (by simp only[lb];omega)
     .have hraw:(c:Int)=((c:Nat):Int):=by rfl
      refine Zde (c) hraw<|Zbw (c) hraw<|k_at_own' Z.length rfl (Zaa hz) ⟨Zaa hz,?_⟩;have hstep:=Zay (B:=4294967296) (Z:=Z) (X:=w32 x) (Y:=w32 y) (n:=(c)%4294967296) (C:=(c)/4294967296) rfl h4 (by rw[ZH,ZH,if_neg g1,if_neg g2];omega);refine⟨((c)/4294967296,Z++[(c)%4294967296]),⟨by simp only[length_append,length_cons,length_nil];omega,by simp only;omega,ZE h3 (Nat.mod_lt _ ω),by simpa only[length_append,length_cons,length_nil]using hstep⟩,by simp only[length_append,length_cons,length_nil];omega,?_⟩;constructor<;>(repeat' apply And.intro)<;>first|exact ωq|exact(Zbc hz _).symm|exact congrArg (fun n:Int=>D.v (.int .i64 n)) (by rw[hwi];simp)
   .have hz:Z.length=wlen 4 x+1:=by have:=oF e1;simp only at this;omega
    rw[ZT x _ ω,ZT y _ ω]at h4;have hc:c=0:=by
     apply Nat.eq_zero_of_not_pos;intro hpos;have:1*4294967296^Z.length<=c*4294967296^Z.length:=Nat.mul_le_mul_right _ hpos;rw[hz]at this h4;omega
    subst hc;refine Zd2 Z (ZgP hz) h3 ω ?_;have:lv 4294967296 Z=x+y:=by rw[Nat.zero_mul,Nat.add_zero]at h4;rw[h4]
    refine Eq.trans (b:=n3 (lv 4294967296 Z)) ?_ rfl;rw[this]
 .refine⟨fun e=>?_,fun e=>?_⟩
  .have h0:((W (w32 y)).length:Int)+1=((wlen 4 y+1:Nat):Int):=by rw[la];omega
   have hw0:IntKind.i64.wrap (((W (w32 y)).length:Int)+1)=((wlen 4 y+1:Nat):Int):=by rw[h0,wrap64 _ ω ω]
   refine⟨⟨by rw[hw0];omega,rfl,by rw[hw0];show ((wlen 4 y+1:Nat):Int)*((4:Nat):Int)<=_;omega,by rw[hw0];omega⟩,?_⟩;refine⟨Nat×List Nat,fun s=>[(0,n3 y),(1,n3 x),(5,.val (.one (.row 18 0))),(6,u64v (s.1:Int)),(20,int ((wlen 4 y+1:Nat):Int)),(21,int (s.2.length:Int))],
    fun s=>[(18,.row 151 1 0 (rowN s.2 (wlen 4 y+1)) true)],
    fun s=>s.2.length<=wlen 4 y+1/\s.1<=1/\(∀d,d∈s.2->d<4294967296)/\lv 4294967296 s.2+s.1*4294967296^s.2.length=lv 4294967296 ((w32 y).take s.2.length)+lv 4294967296 ((w32 x).take s.2.length),
    fun s=>wlen 4 y+1-s.2.length,(0, []),?_,⟨Nat.zero_le _,Nat.zero_le _,fun d hd=>by simp at hd,by simp[lv]⟩,fun s hs=>?_⟩
   .constructor<;>(repeat' apply And.intro)<;>first|exact ωq|(rw[hw0,Int.toNat_natCast];exact(ZgO _).symm)|(rw[hw0,Int.toNat_natCast,List.length_replicate];exact rfl)|(rw[hw0,Int.toNat_natCast];exact rfl)
   obtain⟨c,Z⟩:=s;obtain⟨h1,h2,h3,h4⟩:=hs;simp only at h1 h2 h3 h4;refine⟨fun e1=>?_,fun e1=>?_⟩
   .have hz:Z.length<wlen 4 y+1:=by have:=oT e1;simp only at this;omega
    have hwi:IntKind.i64.wrap ((Z.length:Int)+1)=((Z.length+1:Nat):Int):=by rw[wrap64 _ ω ω];omega
    have da:=dig_lt y Z.length;have db:=dig_lt x Z.length;refine⟨fun e2=>?_,fun e2=>?_⟩
    .have g1:Z.length<wlen 4 y:=by have:=oT e2;simp only[la]at this;omega
     refine k_at [D.v (.int .u32 ((y/4294967296^Z.length%4294967296:Nat):Int))] (Int.natCast_nonneg _) (by rw[Int.toNat_natCast];exact W_at (Zab g1)) rfl<|ZiB (y/4294967296^Z.length%4294967296) rfl ω ⟨fun e3=>?_,fun e3=>?_⟩
     .have g2:Z.length<wlen 4 x:=by have:=oT e3;simp only[lb]at this;omega
      refine k_at [D.v (.int .u32 ((x/4294967296^Z.length%4294967296:Nat):Int))] (Int.natCast_nonneg _) (by rw[Int.toNat_natCast];exact W_at (Zab g2)) rfl<|ZiB (x/4294967296^Z.length%4294967296) rfl ω ?_;have hraw:IntKind.u64.wrap (IntKind.u64.wrap ((c:Int)+((y/4294967296^Z.length%4294967296:Nat):Int))+((x/4294967296^Z.length%4294967296:Nat):Int))=((c+y/4294967296^Z.length%4294967296+x/4294967296^Z.length%4294967296:Nat):Int):=by rw[wu64 (m:=(c:Int)+_) ω ω,wu64 ω ω];omega
      refine Zde (c+y/4294967296^Z.length%4294967296+x/4294967296^Z.length%4294967296) hraw<|Zbw (c+y/4294967296^Z.length%4294967296+x/4294967296^Z.length%4294967296) hraw<|k_at_own' Z.length rfl (Zaa hz) ⟨Zaa hz,?_⟩;have hstep:=Zay (B:=4294967296) (Z:=Z) (X:=w32 y) (Y:=w32 x) (n:=(c+y/4294967296^Z.length%4294967296+x/4294967296^Z.length%4294967296)%4294967296) (C:=(c+y/4294967296^Z.length%4294967296+x/4294967296^Z.length%4294967296)/4294967296) rfl h4 (by rw[ZH,ZH,if_pos g1,if_pos g2];omega);refine⟨((c+y/4294967296^Z.length%4294967296+x/4294967296^Z.length%4294967296)/4294967296,Z++[(c+y/4294967296^Z.length%4294967296+x/4294967296^Z.length%4294967296)%4294967296]),⟨by simp only[length_append,length_cons,length_nil];omega,by simp only;omega,ZE h3 (Nat.mod_lt _ ω),by simpa only[length_append,length_cons,length_nil]using hstep⟩,by simp only[length_append,length_cons,length_nil];omega,?_⟩;constructor<;>(repeat' apply And.intro)<;>first|exact ωq|exact(Zbc hz _).symm|exact congrArg (fun n:Int=>D.v (.int .i64 n)) (by rw[hwi];simp)
     .have g2:¬Z.length<wlen 4 x:=by have:=oF e3;simp only[lb]at this;omega
      have hraw:IntKind.u64.wrap ((c:Int)+((y/4294967296^Z.length%4294967296:Nat):Int))=((c+y/4294967296^Z.length%4294967296:Nat):Int):=by rw[wu64 ω ω];omega
      refine Zde (c+y/4294967296^Z.length%4294967296) hraw<|Zbw (c+y/4294967296^Z.length%4294967296) hraw<|k_at_own' Z.length rfl (Zaa hz) ⟨Zaa hz,?_⟩;have hstep:=Zay (B:=4294967296) (Z:=Z) (X:=w32 y) (Y:=w32 x) (n:=(c+y/4294967296^Z.length%4294967296)%4294967296) (C:=(c+y/4294967296^Z.length%4294967296)/4294967296) rfl h4 (by rw[ZH,ZH,if_pos g1,if_neg g2];omega);refine⟨((c+y/4294967296^Z.length%4294967296)/4294967296,Z++[(c+y/4294967296^Z.length%4294967296)%4294967296]),⟨by simp only[length_append,length_cons,length_nil];omega,by simp only;omega,ZE h3 (Nat.mod_lt _ ω),by simpa only[length_append,length_cons,length_nil]using hstep⟩,by simp only[length_append,length_cons,length_nil];omega,?_⟩;constructor<;>(repeat' apply And.intro)<;>first|exact ωq|exact(Zbc hz _).symm|exact congrArg (fun n:Int=>D.v (.int .i64 n)) (by rw[hwi];simp)
    .have g1:¬Z.length<wlen 4 y:=by have:=oF e2;simp only[la]at this;omega
     have g2:¬Z.length<wlen 4 x:=ω;refine⟨fun e3=>?_,fun e3=>?_⟩
     .exact absurd (oT e3) (by simp only[lb];omega)
     .have hraw:(c:Int)=((c:Nat):Int):=by rfl
      refine Zde (c) hraw<|Zbw (c) hraw<|k_at_own' Z.length rfl (Zaa hz) ⟨Zaa hz,?_⟩;have hstep:=Zay (B:=4294967296) (Z:=Z) (X:=w32 y) (Y:=w32 x) (n:=(c)%4294967296) (C:=(c)/4294967296) rfl h4 (by rw[ZH,ZH,if_neg g1,if_neg g2];omega);refine⟨((c)/4294967296,Z++[(c)%4294967296]),⟨by simp only[length_append,length_cons,length_nil];omega,by simp only;omega,ZE h3 (Nat.mod_lt _ ω),by simpa only[length_append,length_cons,length_nil]using hstep⟩,by simp only[length_append,length_cons,length_nil];omega,?_⟩;constructor<;>(repeat' apply And.intro)<;>first|exact ωq|exact(Zbc hz _).symm|exact congrArg (fun n:Int=>D.v (.int .i64 n)) (by rw[hwi];simp)
   .have hz:Z.length=wlen 4 y+1:=by have:=oF e1;simp only at this;omega
    rw[ZT y _ ω,ZT x _ ω]at h4;have hc:c=0:=by
     apply Nat.eq_zero_of_not_pos;intro hpos;have:1*4294967296^Z.length<=c*4294967296^Z.length:=Nat.mul_le_mul_right _ hpos;rw[hz]at this h4;omega
    subst hc;refine Zd2 Z (ZgP hz) h3 ω ?_;have:lv 4294967296 Z=y+x:=by rw[Nat.zero_mul,Nat.add_zero]at h4;rw[h4]
    refine Eq.trans (b:=n3 (lv 4294967296 Z)) ?_ rfl;rw[this]
  .have e':=oF e;rw[la,lb]at e';omega
theorem Zj2{K:AV->Prop}{a b:Nat}(ha:wlen 4 a<=549755813888)(hb:wlen 4 b<=549755813888)(k:K (n3 (a+b))):Ask 114 [n3 a,n3 b] K:=use2 k (by
 rcases Nat.lt_or_ge (wlen 4 a) (wlen 4 b) with h|h
 .have:=Zi7 b a (Nat.le_of_lt h) hb a b (.inr ⟨rfl,rfl,h⟩)
  rwa[Nat.add_comm]at this
 .exact Zi7 a b h ha a b (.inl ⟨rfl,rfl⟩)
 ) rfl
open Go.RowKit num mem seg q held ratA ratB ratC ratD ratE vars ratF sub32
theorem Zmr(x y b:Nat)(hx:x<4294967296)(hy:y<4294967296)(hb:b<=1):Spec Tryz.prog Tab 174 [u32v (x:Int),u32v (y:Int),u32v (b:Int)] (.tup [.one (.d (.v (.int .u32 (dif x y b:Int)))),.one (.d (.v (.int .u32 (bw x y b:Int))))]):=
 Zo (Zn Tryz.func174 rfl rfl) rfl rfl fun w _=>(ZrT x y b w hx hy hb).mono fun _ _ h=>⟨h.1,h.2▸Below.refl _ _⟩
theorem Zqf{K:AV->Prop}(x y b:Nat)(hx:x<4294967296)(hy:y<4294967296)(hb:b<=1)(k:K (.tup [.one (.d (.v (.int .u32 (dif x y b:Int)))),.one (.d (.v (.int .u32 (bw x y b:Int))))])):Ask 174 [u32v (x:Int),u32v (y:Int),u32v (b:Int)] K:=
 use (Zmr x y b hx hy hb) rfl k
theorem ZvB(x y b:Nat)(hx:x<4294967296)(hy:y<4294967296)(hb:b<=1):dif x y b+y+b=x+bw x y b*4294967296/\bw x y b<=1:=by
 unfold dif bw;split<;>omega
theorem Zj0{K:AV->Prop}{a b:Nat}(hab:b<=a)(ha:wlen 4 a<=549755813888)(k:K (n3 (a-b))):Ask 116 [n3 a,n3 b] K:=use2 k (by
 have la:=Zan a;have lb:=Zan b;have hlb:=wlen_mono hab;refine Zb Tryz.func116 Tryz.ntmps116 ?_;refine⟨⟨Int.natCast_nonneg _,rfl,by rw[la];show ((wlen 4 a:Nat):Int)*((4:Nat):Int)<=_;omega,by rw[la];omega⟩,?_⟩;refine⟨Nat×List Nat,fun s=>[(0,n3 a),(1,n3 b),(5,.val (.one (.row 11 0))),(6,u32v (s.1:Int)),(13,int ((wlen 4 a:Nat):Int)),(14,int (s.2.length:Int))],
  fun s=>[(11,.row 151 1 0 (rowN s.2 (wlen 4 a)) true)],
  fun s=>s.2.length<=wlen 4 a/\s.1<=1/\(∀d,d∈s.2->d<4294967296)/\lv 4294967296 s.2+lv 4294967296 ((w32 b).take s.2.length)=lv 4294967296 ((w32 a).take s.2.length)+s.1*4294967296^s.2.length,
  fun s=>wlen 4 a-s.2.length,(0, []),?_,⟨Nat.zero_le _,Nat.zero_le _,fun d hd=>by simp at hd,by simp[lv]⟩,fun s hs=>?_⟩
 .constructor<;>(repeat' apply And.intro)<;>first|exact ωq|(rw[la,Int.toNat_natCast];exact(ZgO _).symm)|(rw[la];exact rfl)
 obtain⟨c,Z⟩:=s;obtain⟨h1,h2,h3,h4⟩:=hs;simp only at h1 h2 h3 h4;refine⟨fun e1=>?_,fun e1=>?_⟩
 .have hz:Z.length<wlen 4 a:=by have:=oT e1;simp only at this;omega
  have hwi:IntKind.i64.wrap ((Z.length:Int)+1)=((Z.length+1:Nat):Int):=by rw[wrap64 _ ω ω];omega
  have da:=dig_lt a Z.length;have db:=dig_lt b Z.length;refine⟨fun e2=>?_,fun e2=>?_⟩
  .have g2:Z.length<wlen 4 b:=by have:=oT e2;simp only[lb]at this;omega
   refine k_at [D.v (.int .u32 ((b/4294967296^Z.length%4294967296:Nat):Int))] (Int.natCast_nonneg _) (by rw[Int.toNat_natCast];exact W_at (Zab g2)) rfl<|k_at [D.v (.int .u32 ((a/4294967296^Z.length%4294967296:Nat):Int))] (Int.natCast_nonneg _) (by rw[Int.toNat_natCast];exact W_at (Zab hz)) rfl<|Zqf (a/4294967296^Z.length%4294967296) (b/4294967296^Z.length%4294967296) c da db h2<|k_at_own' Z.length rfl (Zaa hz) ⟨Zaa hz,?_⟩;obtain⟨d1,d2⟩:=ZvB (a/4294967296^Z.length%4294967296) (b/4294967296^Z.length%4294967296) c da db h2;have hstep:=ZbC (B:=4294967296) (Z:=Z) (X:=w32 a) (Y:=w32 b) (n:=dif (a/4294967296^Z.length%4294967296) (b/4294967296^Z.length%4294967296) c) (C:=bw (a/4294967296^Z.length%4294967296) (b/4294967296^Z.length%4294967296) c) rfl h4 (by rw[ZH,ZH,if_pos hz,if_pos g2];omega);refine⟨(bw (a/4294967296^Z.length%4294967296) (b/4294967296^Z.length%4294967296) c,Z++[dif (a/4294967296^Z.length%4294967296) (b/4294967296^Z.length%4294967296) c]),⟨by simp only[length_append,length_cons,length_nil];omega,d2,ZE h3 (ZlV _ _ _),by simpa only[length_append,length_cons,length_nil]using hstep⟩,by simp only[length_append,length_cons,length_nil];omega,?_⟩;constructor<;>(repeat' apply And.intro)<;>first|exact ωq|exact(Zbc hz _).symm|exact congrArg (fun n:Int=>D.v (.int .i64 n)) (by rw[hwi];simp)
  .have g2:¬Z.length<wlen 4 b:=by have:=oF e2;simp only[lb]at this;omega
   refine k_at [D.v (.int .u32 ((a/4294967296^Z.length%4294967296:Nat):Int))] (Int.natCast_nonneg _) (by rw[Int.toNat_natCast];exact W_at (Zab hz)) rfl<|Zqf (a/4294967296^Z.length%4294967296) 0 c da ω h2<|k_at_own' Z.length rfl (Zaa hz) ⟨Zaa hz,?_⟩;obtain⟨d1,d2⟩:=ZvB (a/4294967296^Z.length%4294967296) 0 c da ω h2;have hstep:=ZbC (B:=4294967296) (Z:=Z) (X:=w32 a) (Y:=w32 b) (n:=dif (a/4294967296^Z.length%4294967296) 0 c) (C:=bw (a/4294967296^Z.length%4294967296) 0 c) rfl h4 (by rw[ZH,ZH,if_pos hz,if_neg g2];omega);refine⟨(bw (a/4294967296^Z.length%4294967296) 0 c,Z++[dif (a/4294967296^Z.length%4294967296) 0 c]),⟨by simp only[length_append,length_cons,length_nil];omega,d2,ZE h3 (ZlV _ _ _),by simpa only[length_append,length_cons,length_nil]using hstep⟩,by simp only[length_append,length_cons,length_nil];omega,?_⟩;constructor<;>(repeat' apply And.intro)<;>first|exact ωq|exact(Zbc hz _).symm|exact congrArg (fun n:Int=>D.v (.int .i64 n)) (by rw[hwi];simp)
 .have hz:Z.length=wlen 4 a:=by have:=oF e1;simp only at this;omega
  rw[ZT a _ ω,ZT b _ ω]at h4;have hlt:=ZdI (B:=4294967296) (l:=Z) h3;have hc:c=0:=by
   apply Nat.eq_zero_of_not_pos;intro hpos;have:1*4294967296^Z.length<=c*4294967296^Z.length:=Nat.mul_le_mul_right _ hpos;omega
  subst hc;refine Zd2 Z (ZgP hz) h3 ω ?_;have:lv 4294967296 Z=a-b:=by rw[Nat.zero_mul,Nat.add_zero]at h4;omega
  refine Eq.trans (b:=n3 (lv 4294967296 Z)) ?_ rfl;rw[this]
 ) rfl
open Go.RowKit num mem seg q held ratA ratB ratC ratD ratE vars ratF sub32
theorem ZeY{K:AV->Prop}{ty:Ty}{xs:List (List D)}{i n off:Nat}(ds:List D)(r:AV)(h:xs[i]? =some ds)(hl:ds.length=n)(hp:planIs (planCells ty (((ds.drop off).take ty.size).map .d)) r)(k:K r):
  ∃r,(∃ds,xs[i]? =some ds/\ds.length=n/\planIs (planCells ty (((ds.drop off).take ty.size).map .d)) r)/\K r:=⟨r,⟨ds,h,hl,hp⟩,k⟩
theorem Zme{l:List Nat}{i:Nat}(h:i<l.length):(W l)[i]? =some [D.v (.int .u32 ((l.getD i 0:Nat):Int))]:=by
 rw[List.getD_eq_getElem?_getD,gE h];exact W_at (gE h)
theorem W_lt{l:List Nat}{i:Nat}(h:i<l.length):i<(W l).length:=by rw[Znv];exact h
theorem Ziu(n i:Nat)(h:i<wlen 4 n):lv 4294967296 ((w32 n).take (i+1))=lv 4294967296 ((w32 n).take i)+4294967296^i*(n/4294967296^i%4294967296):=by
 rw[Zp,ZH,if_pos h]
theorem ZeK(n j:Nat):(replicate n 0).getD j 0=0:=by
 simp only[List.getD_eq_getElem?_getD,List.getElem?_replicate];split<;>rfl
theorem ZcN{K:AV->Prop}{a b:Nat}(ha:wlen 4 a<=274877906944)(hb:wlen 4 b<=274877906944)(k:K (n3 (a*b))):Ask 113 [n3 a,n3 b] K:=use2 k (by
 have la:=Zan a;have lb:=Zan b;have hsum:IntKind.i64.wrap (((W (w32 a)).length:Int)+((W (w32 b)).length:Int))=((wlen 4 a+wlen 4 b:Nat):Int):=by rw[la,lb,wrap64 _ ω ω];omega
 refine Zb Tryz.func113 Tryz.ntmps113 ?_;refine⟨⟨by rw[hsum];omega,rfl,by rw[hsum];show ((wlen 4 a+wlen 4 b:Nat):Int)*((4:Nat):Int)<=_;omega,by rw[hsum];omega⟩,?_⟩;refine⟨Nat×List Nat,fun s=>[(0,n3 a),(1,n3 b),(5,.val (.one (.row 16 0))),(17,n3 a),(18,int ((wlen 4 a:Nat):Int)),(19,int (s.1:Int))],
  fun s=>[(16,.row 151 1 0 (W s.2) true)],
  fun s=>s.1<=wlen 4 a/\s.2.length=wlen 4 a+wlen 4 b/\(∀d,d∈s.2->d<4294967296)/\(∀j,s.1+wlen 4 b<=j->s.2.getD j 0=0)/\lv 4294967296 s.2=lv 4294967296 ((w32 a).take s.1)*b,
  fun s=>wlen 4 a-s.1,(0,replicate (wlen 4 a+wlen 4 b) 0),?_,⟨Nat.zero_le _,by simp,fun d hd=>by rw[(List.mem_replicate.1 hd).2];omega,fun j _=>ZeK _ _,by rw[ZaE];simp[lv]⟩,fun s hs=>?_⟩
 .constructor<;>(repeat' apply And.intro)<;>first|exact ωq|(rw[hsum,Int.toNat_natCast];exact(ZhA _).symm)|(rw[la];exact rfl)
 obtain⟨i,O⟩:=s;obtain⟨h1,h2,h3,h4,h5⟩:=hs;simp only at h1 h2 h3 h4 h5;refine⟨fun e1=>?_,fun e1=>?_⟩
 .have hi:i<wlen 4 a:=by have:=oT e1;simp only at this;omega
  have hwi:IntKind.i64.wrap ((i:Int)+1)=((i+1:Nat):Int):=by rw[wrap64 _ ω ω];omega
  have dw:=dig_lt a i;refine k_at [D.v (.int .u32 ((a/4294967296^i%4294967296:Nat):Int))] (Int.natCast_nonneg _) (by rw[Int.toNat_natCast];exact W_at (Zab hi)) rfl ?_;generalize hwd:a/4294967296^i%4294967296=x at dw;refine⟨Nat×Nat×List Nat,fun s=>[(0,n3 a),(1,n3 b),(5,.val (.one (.row 16 0))),(6,int (i:Int)),(7,u32v (x:Int)),(8,u64v (s.2.1:Int)),(17,n3 a),(18,int ((wlen 4 a:Nat):Int)),(19,int (i:Int)),(24,n3 b),(25,int ((wlen 4 b:Nat):Int)),(26,int (s.1:Int))],
   fun s=>[(16,.row 151 1 0 (W s.2.2) true)],
   fun s=>s.1<=wlen 4 b/\s.2.1<4294967296/\s.2.2.length=wlen 4 a+wlen 4 b/\(∀d,d∈s.2.2->d<4294967296)/\(∀j,i+wlen 4 b<=j->s.2.2.getD j 0=0)/\lv 4294967296 s.2.2+s.2.1*4294967296^(i+s.1)=lv 4294967296 O+x*4294967296^i*lv 4294967296 ((w32 b).take s.1),
   fun s=>wlen 4 b-s.1,(0,0,O),?_,⟨Nat.zero_le _,by show 0<4294967296;omega,h2,h3,h4,by simp[lv]⟩,fun s hs=>?_⟩
  .constructor<;>(repeat' apply And.intro)<;>first|exact ωq|(rw[hwd];exact rfl)|(rw[lb];exact rfl)
  obtain⟨k,c,U⟩:=s;obtain⟨g1,g2,g3,g4,g5,g6⟩:=hs;simp only at g1 g2 g3 g4 g5 g6;have hik:IntKind.i64.wrap ((i:Int)+(k:Int))=((i+k:Nat):Int):=by rw[wrap64 _ ω ω];omega
  refine⟨fun e2=>?_,fun e2=>?_⟩
  .have hk:k<wlen 4 b:=by have:=oT e2;simp only at this;omega
   have hwk:IntKind.i64.wrap ((k:Int)+1)=((k+1:Nat):Int):=by rw[wrap64 _ ω ω];omega
   have dy:=dig_lt b k;have hlt:i+k<U.length:=ω;have dO:=Zs (B:=4294967296) (l:=U) ω g4 (i+k);refine k_at [D.v (.int .u32 ((b/4294967296^k%4294967296:Nat):Int))] (Int.natCast_nonneg _) (by rw[Int.toNat_natCast];exact W_at (Zab hk)) rfl ?_;have hcol:=ZpO (B:=4294967296) (S:=lv 4294967296 O) (w:=x) (c:=c) (k:=k) (i:=i) (O:=U) (Y:=w32 b) hlt g6 rfl;have hat:=Zme hlt;rw[ZH,if_pos hk]at hcol;generalize b/4294967296^k%4294967296=y at dy hcol;generalize U.getD (i+k) 0=o at dO hcol hat;have hxy:x*y<=4294967295*4294967295:=Nat.mul_le_mul ω ω;have hm:(x:Int)*(y:Int)=((x*y:Nat):Int):=(Int.natCast_mul x y).symm;have hraw:IntKind.u64.wrap ((c:Int)+IntKind.u64.wrap (IntKind.u64.wrap ((x:Int)*(y:Int))+(o:Int)))=((c+(x*y+o):Nat):Int):=by
    rw[hm,wu64 (m:=((x*y:Nat):Int)) ω ω,wu64 (m:=((x*y:Nat):Int)+(o:Int)) ω ω,wu64 ω ω];omega
   refine ZiB x rfl ω<|ZiB y rfl ω<|k_at_own' (i+k) hik (W_lt hlt)<|ZeY [D.v (.int .u32 (o:Int))] (u32v (o:Int)) hat rfl rfl<|ZiB o rfl ω<|Zde (c+(x*y+o)) hraw<|Zbw (c+(x*y+o)) hraw<|k_at_own' (i+k) hik (W_lt hlt) ⟨W_lt hlt,⟨(k+1,(c+(x*y+o))/4294967296,U.set (i+k) ((c+(x*y+o))%4294967296)),⟨hk,by simp only;omega,by simp only[length_set];exact g3,ZaQ g4 (Nat.mod_lt _ ω),fun j hj=>?_,hcol⟩,by simp only;omega,?_⟩⟩
   .simp only;rw[ZG ω];exact g5 j hj
   constructor<;>(repeat' apply And.intro)<;>first|exact ωq|exact(Zfz _ _ _).symm
  .have hk:k=wlen 4 b:=by have:=oF e2;simp only at this;omega
   subst hk;have hib:IntKind.i64.wrap ((i:Int)+((W (w32 b)).length:Int))=((i+wlen 4 b:Nat):Int):=by rw[lb];exact hik
   have hlt:i+wlen 4 b<U.length:=ω;rw[ZT b _ (Nat.le_refl _)]at g6;refine Zde c rfl<|k_at_own' (i+wlen 4 b) hib (W_lt hlt) ⟨W_lt hlt,?_⟩;have hset:=Zcz (B:=4294967296) (l:=U) (j:=i+wlen 4 b) (d:=c%4294967296) hlt;rw[g5 _ (Nat.le_refl _),Nat.mod_eq_of_lt g2,Nat.mul_zero,Nat.add_zero]at hset;refine⟨(i+1,U.set (i+wlen 4 b) (c%4294967296)),⟨hi,by simp only[length_set];exact g3,ZaQ g4 (Nat.mod_lt _ ω),fun j hj=>?_,?_⟩,by simp only;omega,?_⟩
   .simp only at hj⊢;rw[ZG ω];exact g5 j ω
   .simp only;rw[Nat.mod_eq_of_lt g2,hset,Ziu a i hi,hwd,Nat.add_mul,<-h5,Nat.mul_comm (4294967296^(i+wlen 4 b)) c,g6,Nat.mul_comm (4294967296^i) x]
   constructor<;>(repeat' apply And.intro)<;>first|exact ωq|exact(Zfz _ _ _).symm
 .have hi:i=wlen 4 a:=by have:=oF e1;simp only at this;omega
  subst hi;rw[ZT a _ (Nat.le_refl _)]at h5;refine Zd2 O rfl h3 ω<|Eq.trans (b:=n3 (lv 4294967296 O)) ?_ rfl;rw[h5]
 ) rfl
open Go.RowKit num mem seg q held ratA ratB ratC ratD ratE vars ratF sub32
section
variable{K:AV->Prop}{T:TypeId}{ox oy:Operand}
theorem ZsG(T:TypeId)(ox oy:Operand)(n d:Nat)(hd:0<d)(hn:n<9223372036854775808)(w:World):(do eqGuard .quo T ox oy (.int .i64 (n:Int)) (.int .i64 (d:Int));binOp .quo T (.int .i64 (n:Int)) (.int .i64 (d:Int)):Sem Value).run Tryz.prog w= .ok (.int .i64 ((n/d:Nat):Int)) w:=by
 have h0:¬(d:Int)=0:=ω;have h1:n/d<=n:=Nat.div_le_self n d;have e1:(n:Int).tdiv (d:Int)=((n/d:Nat):Int):=rfl;have hb:Op.intDiv .quo .i64 (n:Int) (d:Int)=pure (.int .i64 ((n/d:Nat):Int)):=by
  unfold Op.intDiv;rw[if_neg h0];show pure (Value.int .i64 (IntKind.i64.wrap ((n:Int).tdiv (d:Int))))=_;rw[e1];generalize n/d=z at h1;rw[wrap64 _ ω ω]
 rw[eqGuard_quo,binOp_quo,hb];rfl
theorem ZsF(T:TypeId)(ox oy:Operand)(n d:Nat)(hd:0<d)(w:World):(do eqGuard .rem T ox oy (.int .i64 (n:Int)) (.int .i64 (d:Int));binOp .rem T (.int .i64 (n:Int)) (.int .i64 (d:Int)):Sem Value).run Tryz.prog w= .ok (.int .i64 ((n%d:Nat):Int)) w:=by
 have h0:¬(d:Int)=0:=ω;have e1:(n:Int).tmod (d:Int)=((n%d:Nat):Int):=rfl;have hg:eqGuard .rem T ox oy (.int .i64 (n:Int)) (.int .i64 (d:Int))=pure ():=rfl;rw[hg,binOp_rem];unfold Op.intDiv;rw[if_neg h0];simp only[e1];rfl
theorem Zb0{x y:Int}(n d:Nat)(hx:x=n)(hy:y=d)(hd:0<d)(hn:n<9223372036854775808)(k:K (int ((n/d:Nat):Int))):AskB .quo T ox oy (.int .i64 x) (.int .i64 y) K:=by
 subst hx hy;exact⟨_,⟨_,rfl,rfl,ZsG T ox oy n d hd hn⟩,k⟩
theorem Zd3{x y:Int}(n d:Nat)(hx:x=n)(hy:y=d)(hd:0<d)(k:K (int ((n%d:Nat):Int))):AskB .rem T ox oy (.int .i64 x) (.int .i64 y) K:=by
 subst hx hy;exact⟨_,⟨_,rfl,rfl,ZsF T ox oy n d hd⟩,k⟩
theorem ZoW(T:TypeId)(ox oy:Operand)(n r:Nat)(hr:r<=64)(h:n*2^r<18446744073709551616)(w:World):(do eqGuard .shl T ox oy (.int .u64 (n:Int)) (.int .i64 (r:Int));binOp .shl T (.int .u64 (n:Int)) (.int .i64 (r:Int)):Sem Value).run Tryz.prog w= .ok (.int .u64 ((n*2^r:Nat):Int)) w:=by
 have hg:eqGuard .shl T ox oy (.int .u64 (n:Int)) (.int .i64 (r:Int))=pure ():=rfl;rw[hg,binOp_shl];unfold Op.shift;rw[if_neg ω];have hm:min (r:Int).toNat IntKind.u64.bits=r:=by rw[Int.toNat_natCast];exact Nat.min_eq_left hr
 have e1:(n:Int)*2^r=((n*2^r:Nat):Int):=by rw[Int.natCast_mul,Int.natCast_pow];rfl
 simp only[hm,e1];rw[wu64 ω ω];rfl
theorem ZwC{x y:Int}(n r:Nat)(hx:x=n)(hy:y=r)(hr:r<=64)(h:n*2^r<18446744073709551616)(k:K (u64v ((n*2^r:Nat):Int))):AskB .shl T ox oy (.int .u64 x) (.int .i64 y) K:=by
 subst hx hy;exact⟨_,⟨_,rfl,rfl,ZoW T ox oy n r hr h⟩,k⟩
theorem ZsI(T:TypeId)(ox oy:Operand)(a b i:Nat)(hb:b<2^i)(h:a*2^i+b<4294967296)(w:World):(do eqGuard .or T ox oy (.int .u32 (b:Int)) (.int .u32 ((a*2^i:Nat):Int));binOp .or T (.int .u32 (b:Int)) (.int .u32 ((a*2^i:Nat):Int)):Sem Value).run Tryz.prog w= .ok (.int .u32 ((a*2^i+b:Nat):Int)) w:=by
 have e:=ZhJ i a b hb h;have hc:bits .or .u32 (b:Int) ((a*2^i:Nat):Int)=bits .or .u32 ((a*2^i:Nat):Int) (b:Int):=by
  rw[u32_or_nat b (a*2^i) ω ω,u32_or_nat (a*2^i) b ω ω,Nat.or_comm]
 rw[<-e,<-hc];simp[go_sem]
theorem Zqn{x y:Int}(a b i:Nat)(hx:x=b)(hy:y=((a*2^i:Nat):Int))(hb:b<2^i)(h:a*2^i+b<4294967296)(k:K (u32v ((a*2^i+b:Nat):Int))):AskB .or T ox oy (.int .u32 x) (.int .u32 y) K:=by
 subst hx hy;exact⟨_,⟨_,rfl,rfl,ZsI T ox oy a b i hb h⟩,k⟩
end
open Go.RowKit num mem seg q held ratA ratB ratC ratD ratE vars ratF sub32
theorem Zhj{l:List Nat}{j d:Nat}(h:j<l.length):(l.set j d).getD j 0=d:=by simp[List.getD,h]
theorem pow_two(e:Nat):(4294967296:Nat)^e=2^(32*e):=by rw[show (4294967296:Nat)=2^32 from rfl,<-Nat.pow_mul]
theorem Zs0{r:Nat}(h:r<32):(2:Nat)^r<=2147483648:=Nat.pow_le_pow_right ω (show r<=31 by omega)
theorem ZoD(x r:Nat)(hr:r<32):x*2^r%4294967296=x%2^(32-r)*2^r/\x*2^r=x*2^r%4294967296+4294967296*(x*2^r/4294967296):=by
 constructor
 .have e:(4294967296:Nat)=2^(32-r)*2^r:=by rw[<-Nat.pow_add,show 32-r+r=32 by omega]
  rw[e,Nat.mul_mod_mul_right]
 .have:=Nat.div_add_mod (x*2^r) 4294967296;omega
theorem Zsv(a k:Nat)(ha:wlen 4 a<=274877906944)(hk:k<=1099511627776):Spec Tryz.prog Tab 193 [n3 a,int (k:Int)] (n3 (a*2^k)):=by
 have la:=Zan a;obtain⟨q,hq⟩:∃q,k/32=q:=⟨_,rfl⟩;obtain⟨r,hr⟩:∃r,k%32=r:=⟨_,rfl⟩;have hr32:r<32:=ω;have hkq:k=32*q+r:=ω;have p0:0<2^r:=Nat.pow_pos ω;have p1:=Zs0 hr32;have hq1:IntKind.i64.wrap (((W (w32 a)).length:Int)+((q:Nat):Int))=((wlen 4 a+q:Nat):Int):=by rw[la,wrap64 _ ω ω];omega
 have hq2:IntKind.i64.wrap (IntKind.i64.wrap (((W (w32 a)).length:Int)+((q:Nat):Int))+1)=((wlen 4 a+q+1:Nat):Int):=by rw[hq1,wrap64 _ ω ω];omega
 refine Zb Tryz.func193 Tryz.ntmps193 ?_;refine Zb0 k 32 rfl rfl ω ω ?_;rw[hq];refine⟨⟨by rw[hq2];omega,rfl,by rw[hq2];show ((wlen 4 a+q+1:Nat):Int)*((4:Nat):Int)<=_;omega,by rw[hq2];omega⟩,?_⟩;refine⟨Nat×List Nat,fun s=>[(0,n3 a),(1,int (k:Int)),(5,.val (.one (.row 15 0))),(16,n3 a),(17,int ((wlen 4 a:Nat):Int)),(18,int (s.1:Int))],
  fun s=>[(15,.row 151 1 0 (W s.2) true)],
  fun s=>s.1<=wlen 4 a/\s.2.length=wlen 4 a+q+1/\(∀d,d∈s.2->d<4294967296)/\s.2.getD (s.1+q) 0<2^r/\(∀j,s.1+q+1<=j->s.2.getD j 0=0)/\lv 4294967296 s.2=lv 4294967296 ((w32 a).take s.1)*2^k,
  fun s=>wlen 4 a-s.1,(0,replicate (wlen 4 a+q+1) 0),?_,⟨Nat.zero_le _,by simp,fun d hd=>by rw[(List.mem_replicate.1 hd).2];omega,by simp only[ZeK];exact p0,fun j _=>ZeK _ _,by rw[ZaE];simp[lv]⟩,fun s hs=>?_⟩
 .constructor<;>(repeat' apply And.intro)<;>first|exact ωq|(rw[hq2,Int.toNat_natCast];exact(ZhA _).symm)|(rw[la];exact rfl)
 obtain⟨i,O⟩:=s;obtain⟨h1,h2,h3,h4,h5,h6⟩:=hs;simp only at h1 h2 h3 h4 h5 h6;refine⟨fun e1=>?_,fun e1=>?_⟩
 .have hi:i<wlen 4 a:=by have:=oT e1;simp only at this;omega
  have hwi:IntKind.i64.wrap ((i:Int)+1)=((i+1:Nat):Int):=by rw[wrap64 _ ω ω];omega
  have hiq:IntKind.i64.wrap ((i:Int)+((q:Nat):Int))=((i+q:Nat):Int):=by rw[wrap64 _ ω ω];omega
  have hiq1:IntKind.i64.wrap (IntKind.i64.wrap ((i:Int)+((q:Nat):Int))+1)=((i+q+1:Nat):Int):=by rw[hiq,wrap64 _ ω ω];omega
  have dx:=dig_lt a i;have hval:=Ziu a i hi;refine k_at [D.v (.int .u32 ((a/4294967296^i%4294967296:Nat):Int))] (Int.natCast_nonneg _) (by rw[Int.toNat_natCast];exact W_at (Zab hi)) rfl ?_;generalize a/4294967296^i%4294967296=x at dx hval;have hlt:i+q<O.length:=ω;have hlt1:i+q+1<O.length:=ω;obtain⟨s1,s2⟩:=ZoD x r hr32;have hy:x*2^r<=4294967295*2147483648:=Nat.mul_le_mul ω p1;have hlow:x%2^(32-r)*2^r<4294967296:=by rw[<-s1];exact Nat.mod_lt _ ω
  have hat:=Zme hlt;generalize hod:O.getD (i+q) 0=o at h4 hat;have hsum:x%2^(32-r)*2^r+o<4294967296:=by
   have e:(4294967296:Nat)=2^(32-r)*2^r:=by rw[<-Nat.pow_add,show 32-r+r=32 by omega]
   have h7:x%2^(32-r)<2^(32-r):=Nat.mod_lt _ (Nat.pow_pos ω);have h8:(x%2^(32-r)+1)*2^r<=2^(32-r)*2^r:=Nat.mul_le_mul_right _ h7;rw[<-e,Nat.add_mul,Nat.one_mul]at h8;omega
  have hhigh:x*2^r/4294967296<2^r:=by
   apply Nat.div_lt_of_lt_mul;exact Nat.mul_lt_mul_of_pos_right dx p0
  refine ZiB x rfl ω<|Zd3 k 32 rfl rfl ω ?_;rw[hr];refine ZwC x r rfl rfl ω ω<|Zb0 k 32 rfl rfl ω ω ?_;rw[hq];refine k_at_own' (i+q) hiq (W_lt hlt)<|ZeY [D.v (.int .u32 (o:Int))] (u32v (o:Int)) hat rfl rfl<|Zde (x*2^r) rfl<|Zqn (x%2^(32-r)) o r rfl (by rw[s1]) h4 hsum<|k_at_own' (i+q) hiq (W_lt hlt) ⟨W_lt hlt,Zb0 k 32 rfl rfl ω ω ?_⟩;rw[hq];have hU:(O.set (i+q) (x%2^(32-r)*2^r+o)).getD (i+q+1) 0=0:=by rw[ZG ω];exact h5 _ (Nat.le_refl _)
  have hlt2:i+q+1<(O.set (i+q) (x%2^(32-r)*2^r+o)).length:=by rw[length_set];exact hlt1
  have hat2:=Zme hlt2;rw[hU]at hat2;refine k_at_own' (i+q+1) hiq1 (by rw[Zfz];exact W_lt hlt2)<|ZeY [D.v (.int .u32 ((0:Nat):Int))] (u32v ((0:Nat):Int)) (by rw[Zfz];exact hat2) rfl rfl<|Zbw (x*2^r) rfl<|Zde (x*2^r/4294967296) rfl<|Zqn (x*2^r/4294967296) 0 0 rfl (by rw[Nat.mod_eq_of_lt ω];simp) ωd (by simp;omega)<|k_at_own' (i+q+1) hiq1 (by rw[Zfz];exact W_lt hlt2) ⟨by rw[Zfz];exact W_lt hlt2,?_⟩;have hs1:=Zcz (B:=4294967296) (l:=O) (j:=i+q) (d:=x%2^(32-r)*2^r+o) hlt;have hs2:=Zcz (B:=4294967296) (l:=O.set (i+q) (x%2^(32-r)*2^r+o)) (j:=i+q+1) (d:=x*2^r/4294967296) hlt2;rw[hU,Nat.mul_zero,Nat.add_zero]at hs2;rw[hod]at hs1;refine⟨(i+1,(O.set (i+q) (x%2^(32-r)*2^r+o)).set (i+q+1) (x*2^r/4294967296)),⟨hi,by simp only[length_set];exact h2,ZaQ (ZaQ h3 hsum) ω,?_,fun j hj=>?_,?_⟩,by simp only;omega,?_⟩
  .simp only;rw[show i+1+q=i+q+1 by omega,Zhj hlt2];exact hhigh
  .simp only at hj⊢;rw[ZG ω,ZG ω];exact h5 j ω
  .simp only;have hB:4294967296^(i+q+1)*(x*2^r/4294967296)=4294967296^(i+q)*(4294967296*(x*2^r/4294967296)):=by rw[Nat.pow_succ,Nat.mul_assoc]
   have hkk:2^k=4294967296^q*2^r:=by rw[pow_two,<-Nat.pow_add,<-hkq]
   have hx2:4294967296^i*x*2^k=4294967296^(i+q)*(x*2^r):=by rw[hkk,Nat.pow_add];simp only[Nat.mul_comm,Nat.mul_left_comm,Nat.mul_assoc]
   rw[Nat.mul_add]at hs1;rw[hs2,hval,Nat.add_mul,hx2,<-h6,hB];rw[s1]at s2;have:=congrArg (fun z=>4294967296^(i+q)*z) s2;simp only[Nat.mul_add]at this;omega
  constructor<;>(repeat' apply And.intro)<;>first|exact ωq|(rw[Zfz,Nat.pow_zero,Nat.mul_one,Nat.add_zero];exact(Zfz _ _ _).symm)
 .have hi:i=wlen 4 a:=by have:=oF e1;simp only at this;omega
  subst hi;rw[ZT a _ (Nat.le_refl _)]at h6;refine Zd2 O rfl h3 ω<|Eq.trans (b:=n3 (lv 4294967296 O)) ?_ rfl;rw[h6]
open Go.RowKit num mem seg q held ratA ratB ratC ratD ratE vars ratF sub32
theorem ZrE:∀x:Nat,0<x->x<4294967296->2^Lib.bitLen x<=2*x/\x<2^Lib.bitLen x:=by
 intro x
 induction x using Nat.strongRecOn with
 |_ x ih=>
  intro h0 hx;have hb:=Lib.bitLen_half x ω ω;by_cases h1:x/2=0
  .have:x=1:=ω;subst this;decide
  .obtain⟨g1,g2⟩:=ih (x/2) ω ω ω;rw[hb,Nat.add_comm,Nat.pow_succ];omega
theorem Zzn{x:Nat}(h0:0<x)(hx:x<4294967296):Lib.bitLen x<=32:=by
 obtain⟨h1,_⟩:=ZrE x h0 hx;apply Nat.le_of_not_lt;intro h;have:2^33<=2^Lib.bitLen x:=Nat.pow_le_pow_right ω h;omega
def sz(n:Nat):Nat:=if wlen 4 n=0 then 0 else 32*(wlen 4 n-1)+Lib.bitLen (n/4294967296^(wlen 4 n-1)%4294967296)
theorem ZL(n:Nat):wlen 4 n=0↔n=0:=by
 constructor
 .intro h;have:=lt_B n;rw[h]at this;simpa using this
 .intro h;subst h;exact Nat.le_zero.1 ((ZaB ω).2 ωd)
theorem top_pos{n:Nat}(h:0<n):0<wlen 4 n/\0<n/4294967296^(wlen 4 n-1)/\n/4294967296^(wlen 4 n-1)<4294967296:=by
 have h1:0<wlen 4 n:=Nat.pos_of_ne_zero (fun e=>by have:=(ZL n).1 e;omega);have h2:4294967296^(wlen 4 n-1)<=n:=by
  apply Nat.le_of_not_lt;intro hlt;have:=(ZaB (s:=4) (n:=n) (k:=wlen 4 n-1) ω).2 (by simpa using hlt);omega
 have h3:=lt_B n;obtain⟨m,hm⟩:∃m,wlen 4 n=m+1:=⟨wlen 4 n-1,ω⟩;rw[hm]at h2 h3⊢;simp only[Nat.add_sub_cancel]at h2⊢;refine⟨ω,Nat.div_pos h2 (Nat.pow_pos ω),?_⟩;apply Nat.div_lt_of_lt_mul;rw[Nat.pow_succ]at h3;exact h3
theorem Zok{n:Nat}(h:0<n):2^sz n<=2*n/\n<2^sz n:=by
 obtain⟨h1,h2,h3⟩:=top_pos h;unfold sz;rw[if_neg ω,Nat.mod_eq_of_lt h3,Nat.pow_add,<-pow_two];generalize hP:4294967296^(wlen 4 n-1)=P at h2 h3⊢;have hp:0<P:=by rw[<-hP];exact Nat.pow_pos ω
 obtain⟨g1,g2⟩:=ZrE (n/P) h2 h3;generalize Lib.bitLen (n/P)=b at g1 g2⊢;have e:=Nat.div_add_mod n P;have hr:=Nat.mod_lt n hp;generalize n/P=t at*;constructor
 .have:=Nat.mul_le_mul_left P g1;rw[Nat.mul_left_comm]at this;omega
 .have:=Nat.mul_le_mul_left P g2;rw[Nat.succ_eq_add_one,Nat.mul_add,Nat.mul_one]at this;omega
theorem ZxU(n:Nat):sz n<=32*wlen 4 n:=by
 unfold sz;split
 .omega
 .rename_i h;have h0:0<n:=Nat.pos_of_ne_zero (fun e=>h ((ZL n).2 e));obtain⟨h1,h2,h3⟩:=top_pos h0;rw[Nat.mod_eq_of_lt h3];have:=Zzn h2 h3;omega
section
variable{K:AV->Prop}{a b:Nat}
theorem Zwu(x:Nat)(hx:x<4294967296):Spec Tryz.prog Tab 220 [u32v (x:Int)] (int (32-(Lib.bitLen x:Int))):=
 Zo (Zn Tryz.func220 rfl rfl) rfl rfl fun w _=>(Tryz.bits_LeadingZeros32 (x:Int) w ω ω).mono fun _ _ h=>⟨by rw[h.1,Int.toNat_natCast],h.2▸Below.refl _ _⟩
theorem k_lz(x:Nat)(hx:x<4294967296)(k:K (int (32-(Lib.bitLen x:Int)))):Ask 220 [u32v (x:Int)] K:=use (Zwu x hx) rfl k
theorem ZoA(n:Nat)(hn:wlen 4 n<=17179869184):Spec Tryz.prog Tab 192 [n3 n] (int (sz n:Int)):=by
 have la:=Zan n;refine Zb Tryz.func192 Tryz.ntmps192 ?_;refine⟨fun e=>?_,fun e=>?_⟩
 .have h0:wlen 4 n=0:=by
   have:((((W (w32 n)).length:Nat):Int)==0)=true:=e;rw[la]at this;simp at this;omega
  refine Eq.trans (b:=int 0) ?_ rfl;rw[sz,if_pos h0];rfl
 .have h0:wlen 4 n≠0:=by
   intro h;have:((((W (w32 n)).length:Nat):Int)==0)=false:=e;rw[la,h]at this;simp at this
  obtain⟨m,hm⟩:∃m,wlen 4 n=m+1:=⟨wlen 4 n-1,ω⟩;have hw:IntKind.i64.wrap (((W (w32 n)).length:Int)-1)=(m:Int):=by rw[la,hm,wrap64 _ ω ω];omega
  have dt:=dig_lt n m;have hp:0<n:=Nat.pos_of_ne_zero (fun e=>h0 ((ZL n).2 e));obtain⟨t1,t2,t3⟩:=top_pos hp;have hbl:=Zzn t2 t3;rw[hm,Nat.add_sub_cancel]at t2 t3 hbl;refine k_at [D.v (.int .u32 ((n/4294967296^m%4294967296:Nat):Int))] (by rw[hw];omega) (by rw[hw,Int.toNat_natCast];exact W_at (Zab ω)) rfl<|k_lz (n/4294967296^m%4294967296) dt<|Eq.trans (b:=int (IntKind.i64.wrap (IntKind.i64.wrap (32*((W (w32 n)).length:Int))-(32-(Lib.bitLen (n/4294967296^m%4294967296):Int))))) ?_ rfl;rw[sz,if_neg h0,la,hm,Nat.add_sub_cancel,Nat.mod_eq_of_lt t3];generalize Lib.bitLen (n/4294967296^m)=b at hbl;rw[wrap64 (32*_) ω ω,wrap64 _ ω ω];congr 1;omega
theorem Zvm(hn:wlen 4 a<=17179869184)(k:K (int (sz a:Int))):Ask 192 [n3 a] K:=use (ZoA a hn) rfl k
theorem Zqh{x:Int}{vv:List (List D)}(a k:Nat)(hv:vv=W (w32 a))(hx:x=k)(ha:wlen 4 a<=274877906944)(hk:k<=1099511627776)(kk:K (n3 (a*2^k))):Ask 193 [.val (.one (.d (.list vv))),int x] K:=by
 subst hv hx;exact use (Zsv a k ha hk) rfl kk
theorem ZaO:w32 1= [1]:=by
 have:=Zgp (l:=[1]) (by simp) (by
  intro d t h;have: []++[1]=t++[d]:=h;have:=(List.append_inj' this rfl).2;simp at this;omega)
 simpa[lv]using this
theorem ZkH:w32 0= []:=List.eq_nil_of_length_eq_zero (by rw[Zi];exact(ZL 0).2 rfl)
theorem ZzB(n:Nat):n<2^sz n:=by
 rcases Nat.eq_zero_or_pos n with rfl|h
 .exact Nat.pow_pos ω
 .exact(Zok h).2
theorem ZnR{n k:Nat}(h:n<2^(32*k)):wlen 4 n<=k:=(ZaB ω).2 (by rw[show (256:Nat)^4=4294967296 from rfl,pow_two];exact h)
theorem Z3{n m:Nat}(h:n<=m){k:Nat}(hk:wlen 4 m<=k):wlen 4 n<=k:=Nat.le_trans (wlen_mono h) hk
theorem Zj7(a b:Nat)(hb:0<b)(ha:wlen 4 a<=8589934592)(hbl:wlen 4 b<=8589934592):Spec Tryz.prog Tab 143 [n3 a,n3 b] (two (n3 (a/b)) (n3 (a%b))):=by
 have sa:=ZxU a;have sb:=ZxU b;have hsub:IntKind.i64.wrap ((sz a:Int)-(sz b:Int))=(sz a:Int)-(sz b:Int):=wrap64 _ ω ω;obtain⟨hz1,hz2⟩:=Zok hb;have hza:=ZzB a;refine Zb Tryz.func143 Tryz.ntmps143 ?_;refine Zvm ω ?_;refine Zvm ω ?_;refine⟨Int×Nat×Nat,fun s=>[(0,n3 s.2.1),(1,n3 b),(6,n3 s.2.2),(7,int s.1)],fun _=>[],
  fun s=>s.1<=(sz a:Int)-(sz b:Int)/\-1099511627776<=s.1/\s.2.1<=a/\s.2.2*b+s.2.1=a/\s.2.1<b*2^(s.1+1).toNat,fun s=>(s.1+1).toNat,((sz a:Int)-(sz b:Int),a,0),?_,?_,fun s hs=>?_⟩
 .constructor<;>(repeat' apply And.intro)<;>first|exact ωq|exact(show mtD (.v (.slice none 0 0)) (.list (W (w32 0))) by rw[ZkH];exact True.intro)|(rw[hsub];exact rfl)
 .refine⟨Int.le_refl _,by simp only;omega,Nat.le_refl _,by simp,?_⟩;simp only;by_cases h:sz b<=sz a
  .obtain⟨i,hi⟩:∃i,sz a=sz b+i:=⟨sz a-sz b,ω⟩;have e:((sz a:Int)-(sz b:Int)+1).toNat=i+1:=ω;rw[e];rw[hi,Nat.pow_add]at hza;have:=Nat.mul_le_mul_right (2^i) hz1;rw[Nat.pow_succ];have e2:b*(2^i*2)=2*b*2^i:=by rw[Nat.mul_comm (2^i) 2,<-Nat.mul_assoc,Nat.mul_comm b 2]
   omega
  .have e:((sz a:Int)-(sz b:Int)+1).toNat=0:=ω;rw[e,Nat.pow_zero,Nat.mul_one];have h2:2^(sz a+1)<=2^sz b:=Nat.pow_le_pow_right ω ω;rw[Nat.pow_succ]at h2;omega
 obtain⟨i,x,q⟩:=s;obtain⟨h1,h2,h3,h4,h5⟩:=hs;simp only at h1 h2 h3 h4 h5;have hq:q<=a:=by
  have:q*1<=q*b:=Nat.mul_le_mul_left _ hb;omega
 refine⟨fun e1=>?_,fun e1=>?_⟩
 .have hi:0<=i:=oT e1;obtain⟨k,rfl⟩:∃k:Nat,i=k:=⟨i.toNat,ω⟩;have hwi:IntKind.i64.wrap ((k:Int)-1)=(k:Int)-1:=wrap64 _ ω ω;have ek:((k:Int)+1).toNat=k+1:=ω;have ek2:((k:Int)-1+1).toNat=k:=ω;rw[ek,Nat.pow_succ,<-Nat.mul_assoc]at h5;have hbk:b*2^k<2^(32*wlen 4 a):=by
   have g1:b*2^k<2^sz b*2^k:=Nat.mul_lt_mul_of_pos_right hz2 (Nat.pow_pos ω);rw[<-Nat.pow_add]at g1;exact Nat.lt_of_lt_of_le g1 (Nat.pow_le_pow_right ω ω)
  have wbk:=ZnR hbk;have w2k:wlen 4 (1*2^k)<=8589934592:=Z3 (Nat.mul_le_mul_right _ hb) (Nat.le_trans wbk ha);refine Zqh b k rfl rfl ω ω<|Zqu (Z3 h3 ω) ω fun v hv=>⟨fun e2=>?_,fun e2=>?_⟩
  .have hge:b*2^k<=x:=hv.1 (oT e2);refine Zj0 hge (Z3 h3 ω)<|Zqh 1 k (by rw[ZaO];rfl) rfl (by rw[show wlen 4 1=1 by rw[<-Zi,ZaO];rfl];omega) ω<|Zj2 (Z3 hq ω) ω ⟨((k:Int)-1,x-b*2^k,q+1*2^k),⟨by simp only;omega,by simp only;omega,by simp only;omega,?_,?_⟩,by simp only;omega,?_⟩
   .simp only;rw[Nat.add_mul,Nat.one_mul,Nat.mul_comm (2^k) b];omega
   .simp only;rw[ek2];omega
   exact ωE
  .have hlt:x<b*2^k:=by
    apply Nat.lt_of_not_le;intro hc;exact absurd (hv.2 hc) (oF e2)
   exact⟨((k:Int)-1,x,q),⟨by simp only;omega,by simp only;omega,h3,h4,by simp only;rw[ek2];exact hlt⟩,by simp only;omega,ωE⟩
 .have hi:¬0<=i:=oF e1;have e0:(i+1).toNat=0:=ω;rw[e0,Nat.pow_zero,Nat.mul_one]at h5;have hu:a/b=q/\a%b=x:=(Nat.div_mod_unique hb).2 ⟨by rw[Nat.mul_comm b q];omega,h5⟩;refine Eq.trans (b:=two (n3 q) (n3 x)) ?_ rfl;rw[hu.1,hu.2]
theorem ZdK(hb:0<b)(ha:wlen 4 a<=8589934592)(hbl:wlen 4 b<=8589934592)(k:K (two (n3 (a/b)) (n3 (a%b)))):Ask 143 [n3 a,n3 b] K:=use (Zj7 a b hb ha hbl) rfl k
theorem Zj4(a b:Nat)(ha:wlen 4 a<=8589934592)(hb:wlen 4 b<=8589934592):Spec Tryz.prog Tab 86 [n3 a,n3 b] (n3 (Nat.gcd a b)):=by
 refine Zb Tryz.func86 Tryz.ntmps86 ?_;refine⟨Nat×Nat,fun s=>[(0,n3 s.1),(1,n3 s.2)],fun _=>[],fun s=>Nat.gcd s.1 s.2=Nat.gcd a b/\wlen 4 s.1<=8589934592/\wlen 4 s.2<=8589934592,fun s=>s.2,(a,b),?_,⟨rfl,ha,hb⟩,fun s hs=>?_⟩
 .exact ωE
 obtain⟨x,y⟩:=s;obtain⟨h1,h2,h3⟩:=hs;simp only at h1 h2 h3;have ly:=Zan y;refine⟨fun e1=>?_,fun e1=>?_⟩
 .have hy:0<y:=by
   have:=oT e1;simp only[ly]at this;apply Nat.pos_of_ne_zero;intro h;rw[(ZL y).2 h]at this;simp at this
  refine ZdK hy h2 h3 ?_;have hlt:=Nat.mod_lt x hy;exact⟨(y,x%y),⟨by simp only;rw[<-h1,Nat.gcd_comm x y,Nat.gcd_rec y x,Nat.gcd_comm],h3,Z3 (Nat.le_of_lt hlt) h3⟩,hlt,ωE⟩
 .have hy:y=0:=by
   have:=oF e1;simp only[ly]at this;exact(ZL y).1 ω
  subst hy;refine Eq.trans (b:=n3 x) ?_ rfl;rw[<-h1,Nat.gcd_zero_right]
theorem Zhd(ha:wlen 4 a<=8589934592)(hb:wlen 4 b<=8589934592)(k:K (n3 (Nat.gcd a b))):Ask 86 [n3 a,n3 b] K:=use (Zj4 a b ha hb) rfl k
end
open Go.RowKit num mem seg q held ratA ratB ratC ratD ratE vars ratF sub32
section
variable{K:AV->Prop}{T:TypeId}{ox oy:Operand}{a b:Nat}
theorem Zch{s:ByteArray}{m:Int}(b:UInt8)(h0:0<=m)(hb:s[m.toNat]? =some b)(k:K (one (.int .u8 (b.toNat:Int)))):
  ∃r,(∃b:UInt8,0<=m/\s[m.toNat]? =some b/\r=one (.int .u8 (b.toNat:Int)))/\K r:=⟨_,⟨b,h0,hb,rfl⟩,k⟩
theorem Zy8{n i:Nat}(h:i<(enc n).size):∃b:UInt8,(enc n)[(enc n).size-1-i]? =some b/\b.toNat=n/256^i%256:=by
 have hl:(enc n).size-1-i<(enc n).size:=ω;exact⟨(enc n)[(enc n).size-1-i],getElem?_pos (enc n) _ hl,ZcS n i h⟩
theorem ZnP(n:Nat):IntKind.u8.wrap (n:Int)=((n%256:Nat):Int):=by
 unfold IntKind.wrap;simp[IntKind.signed,IntKind.bits]
theorem ZmD(T:TypeId)(ox oy:Operand)(n r:Nat)(hr:r<=32)(h:n*2^r<4294967296)(w:World):(do eqGuard .shl T ox oy (.int .u32 (n:Int)) (.int .i64 (r:Int));binOp .shl T (.int .u32 (n:Int)) (.int .i64 (r:Int)):Sem Value).run Tryz.prog w= .ok (.int .u32 ((n*2^r:Nat):Int)) w:=by
 have hg:eqGuard .shl T ox oy (.int .u32 (n:Int)) (.int .i64 (r:Int))=pure ():=rfl;rw[hg,binOp_shl];unfold Op.shift;rw[if_neg ω];have hm:min (r:Int).toNat IntKind.u32.bits=r:=by rw[Int.toNat_natCast];exact Nat.min_eq_left hr
 have e1:(n:Int)*2^r=((n*2^r:Nat):Int):=by rw[Int.natCast_mul,Int.natCast_pow];rfl
 simp only[hm,e1];rw[wu32 ω ω];rfl
theorem ZtA{x y:Int}(n r:Nat)(hx:x=n)(hy:y=r)(hr:r<=32)(h:n*2^r<4294967296)(k:K (u32v ((n*2^r:Nat):Int))):AskB .shl T ox oy (.int .u32 x) (.int .i64 y) K:=by
 subst hx hy;exact⟨_,⟨_,rfl,rfl,ZmD T ox oy n r hr h⟩,k⟩
theorem ZmC(T:TypeId)(ox oy:Operand)(n r:Nat)(hr:r<=32)(w:World):(do eqGuard .shr T ox oy (.int .u32 (n:Int)) (.int .i64 (r:Int));binOp .shr T (.int .u32 (n:Int)) (.int .i64 (r:Int)):Sem Value).run Tryz.prog w= .ok (.int .u32 ((n/2^r:Nat):Int)) w:=by
 have hg:eqGuard .shr T ox oy (.int .u32 (n:Int)) (.int .i64 (r:Int))=pure ():=rfl;rw[hg,binOp_shr];unfold Op.shift;rw[if_neg ω];have hm:min (r:Int).toNat IntKind.u32.bits=r:=by rw[Int.toNat_natCast];exact Nat.min_eq_left hr
 have e1:(n:Int).fdiv (2^r)=((n/2^r:Nat):Int):=by
  have:(2:Int)^r=((2^r:Nat):Int):=by rw[Int.natCast_pow];rfl
  rw[this,Int.fdiv_eq_ediv_of_nonneg _ (Int.natCast_nonneg _)];exact(Int.natCast_ediv _ _).symm
 simp only[hm,e1];rfl
theorem Ztz{x y:Int}(n r:Nat)(hx:x=n)(hy:y=r)(hr:r<=32)(k:K (u32v ((n/2^r:Nat):Int))):AskB .shr T ox oy (.int .u32 x) (.int .i64 y) K:=by
 subst hx hy;exact⟨_,⟨_,rfl,rfl,ZmC T ox oy n r hr⟩,k⟩
theorem pow256(r:Nat):(256:Nat)^r=2^(r*8):=by rw[show (256:Nat)=2^8 from rfl,<-Nat.pow_mul,Nat.mul_comm]
theorem ZmS(n:Nat)(hn:(enc n).size<=34359738368):Spec Tryz.prog Tab 43 [str (enc n)] (n3 n):=by
 obtain⟨L,hL⟩:∃L,(enc n).size=L:=⟨_,rfl⟩;have hwl:(L+3)/4=wlen 4 n:=by rw[<-hL];rfl
 have hw0:IntKind.i64.wrap (((enc n).size:Int)+3)=((L+3:Nat):Int):=by rw[hL,wrap64 _ ω ω];omega
 refine Zb Tryz.func43 Tryz.ntmps43 ?_;refine Zb0 (L+3) 4 hw0 rfl ω ω ?_;rw[hwl];refine⟨⟨Int.natCast_nonneg _,rfl,by show ((wlen 4 n:Nat):Int)*((4:Nat):Int)<=_;omega,ω⟩,?_⟩;refine⟨Nat,fun i=>[(0,str (enc n)),(3,.val (.one (.row 10 0))),(12,int ((L:Nat):Int)),(13,int (i:Int))],
  fun i=>[(10,.row 151 1 0 (W (prt 4 n i (wlen 4 n))) true)],fun i=>i<=L,fun i=>L-i,0,?_,Nat.zero_le _,fun i hs=>?_⟩
 .constructor<;>(repeat' apply And.intro)<;>first|exact ωq|(rw[hL];exact rfl)|(rw[Int.toNat_natCast,ZgY];exact(ZhA _).symm)
 refine⟨fun e1=>?_,fun e1=>?_⟩
 .have hi:i<L:=by have:=oT e1;omega
  have hwi:IntKind.i64.wrap ((i:Int)+1)=((i+1:Nat):Int):=by rw[wrap64 _ ω ω];omega
  have hwk:IntKind.i64.wrap (IntKind.i64.wrap (((enc n).size:Int)-1)-(i:Int))=((L-1-i:Nat):Int):=by rw[hL,wrap64 (_-1) ω ω,wrap64 _ ω ω];omega
  obtain⟨b,hb,hbv⟩:=Zy8 (n:=n) (i:=i) ω;rw[hL]at hb;have hq:i/4<wlen 4 n:=ω;have hlt:i/4<(prt 4 n i (wlen 4 n)).length:=by rw[ZdB];exact hq
  have hold:=ZjH (s:=4) (n:=n) (i:=i) (N:=wlen 4 n) ω hq;have hstep:=ZgZ (s:=4) (n:=n) (i:=i) (N:=wlen 4 n) ω;have hat:=Zme hlt;generalize (prt 4 n i (wlen 4 n)).getD (i/4) 0=o at hold hstep hat;rw[<-hbv]at hstep;have hb256:=b.toNat_lt;have hr:i%4<4:=Nat.mod_lt _ ω;rw[pow256]at hold hstep;have hp:2^(i%4*8)<=16777216:=Nat.pow_le_pow_right (n:=2) ω (show i%4*8<=24 by omega);have hsum:b.toNat*2^(i%4*8)+o<4294967296:=by
   have h1:(b.toNat+1)*2^(i%4*8)<=256*16777216:=Nat.mul_le_mul ω hp;rw[Nat.add_mul,Nat.one_mul]at h1;omega
  have hmul:IntKind.i64.wrap (((i%4:Nat):Int)*8)=((i%4*8:Nat):Int):=by rw[wrap64 _ ω ω];omega
  refine Zb0 i 4 rfl rfl ω ω<|k_at_own' (i/4) rfl (W_lt hlt)<|ZeY [D.v (.int .u32 (o:Int))] (u32v (o:Int)) hat rfl rfl<|Zch b (by rw[hwk];omega) (by rw[hwk,Int.toNat_natCast];exact hb)<|Zdg s_u8 ZvR (b.toNat:Int) (by rw[wu32 ω ω])<|Zd3 i 4 rfl rfl ω<|ZtA b.toNat (i%4*8) rfl hmul ω ω<|Zqn b.toNat o (i%4*8) rfl rfl hold hsum<|k_at_own' (i/4) rfl (W_lt hlt) ⟨W_lt hlt,⟨ωr,?_⟩⟩;rw[Nat.add_comm o]at hstep;refine⟨i+1,hi,by simp only;omega,?_⟩;constructor<;>(repeat' apply And.intro)<;>first|exact ωq|(rw[<-hstep];exact(Zfz _ _ _).symm)
 .have hi:i=L:=by have:=oF e1;omega
  subst hi;have hall:prt 4 n i (wlen 4 n)=w32 n:=by
   rw[ZjI ω (Zh.1 ω)];rfl
  refine Zd2 (w32 n) (by rw[hall]) (Zb1 n) (by rw[Zi];omega) ?_;rw[Zbg];exact rfl
theorem Zbx{n:Nat}{s:ByteArray}(hs:s=enc n)(hn:(enc n).size<=34359738368)(k:K (n3 n)):Ask 43 [str s] K:=by
 subst hs;exact use (ZmS n hn) rfl k
def Y(l:List UInt8):List (List D):=l.map fun (x:UInt8)=>[D.v (.int .u8 (x.toNat:Int))]
theorem div256(n i:Nat):n/256^i/256=n/256^(i+1):=by rw[Nat.div_div_eq_div_mul,Nat.pow_succ]
theorem Zzs{n i:Nat}(h:n/256^i≠0):Y (digs (n/256^i))=Y (digs (n/256^(i+1)))++[[D.v (.int .u8 ((n/256^i%256:Nat):Int))]]:=by
 rw[Zdr h,div256];unfold Y;rw[List.map_append];simp only[List.map_cons,List.map_nil,Zb3]
theorem Zsi(n:Nat):strOfNums ((digs n).map fun b:UInt8=>(b.toNat:Int))=enc n:=by
 apply ZcE;rw[strOfNums_data,Zbn,map_map];have:((fun n:Int=>UInt8.ofNat n.toNat) ∘ fun b:UInt8=>(b.toNat:Int))=id:=by
  funext b;simp[Function.comp]
 rw[this,List.map_id]
theorem ZxL:Tryz.prog.underlying 9=some .string:=ωr
theorem Zn4:Tryz.prog.underlying 234=some (.slice 5):=ωr
theorem top256(n:Nat):n/256^(4*wlen 4 n)=0:=by
 apply Nat.div_eq_of_lt;have:=lt_B n
 rwa[show (4294967296:Nat)=256^4 from rfl,<-Nat.pow_mul]at this
theorem Zvk{n:Nat}(hn:wlen 4 n<=8589934592)(k:K (str (enc n))):Ask 128 [n3 n] K:=use2 k (by
 have la:=Zan n;have h0:=top256 n;have hw0:IntKind.i64.wrap (IntKind.i64.wrap (((W (w32 n)).length:Int)*4)-1)=((4*wlen 4 n:Nat):Int)-1:=by rw[la,wrap64 (_*4) ω ω,wrap64 _ ω ω];omega
 refine Zb Tryz.func128 Tryz.ntmps128 ?_;refine⟨Nat,fun k=>[(0,n3 n),(3,.val (.one (.row 34 0))),(4,int ((k:Int)-1))],
  fun k=>[(34,.row 5 1 0 (Y (digs (n/256^k))) true)],fun k=>k<=4*wlen 4 n,fun k=>k,4*wlen 4 n,?_,Nat.le_refl _,fun k hs=>?_⟩
 .constructor<;>(repeat' (first|exact rfl|exact True.intro|exact(by decide:0<1)|apply And.intro))
  all_goals first
   |exact congrArg (fun n:Int=>D.v (.int .i64 n)) hw0.symm
   |exact⟨5,1,by show Ob.row _ 1 0 (Y (digs (n/256^(4*wlen 4 n)))) true=_;rw[h0,Z2];rfl⟩
   |exact(show Y (digs (n/256^(4*wlen 4 n)))= [] by rw[h0,Z2];rfl)
 have hd:(digs (n/256^k)).length<=4*wlen 4 n:=by
  rw[ZcD];refine Nat.lt_of_le_of_lt (Nat.div_le_self _ _) ?_;have:=lt_B n
  rwa[show (4294967296:Nat)=256^4 from rfl,<-Nat.pow_mul]at this
 have hYl:(Y (digs (n/256^k))).length=(digs (n/256^k)).length:=by unfold Y;rw[List.length_map]
 refine⟨fun e1=>?_,fun e1=>?_⟩
 .have hk:0<=(k:Int)-1:=oT e1;obtain⟨i,rfl⟩:∃i,k=i+1:=⟨k-1,ω⟩;have hki:((i+1:Nat):Int)-1=(i:Int):=ω;have hwi:IntKind.i64.wrap (((i+1:Nat):Int)-1-1)=(i:Int)-1:=by rw[wrap64 _ ω ω];omega
  have hq:i/4<wlen 4 n:=ω;have hr:i%4<4:=Nat.mod_lt _ ω;have hmul:IntKind.i64.wrap (((i%4:Nat):Int)*8)=((i%4*8:Nat):Int):=by rw[wrap64 _ ω ω];omega
  have hbyte:n/4294967296^(i/4)%4294967296/2^(i%4*8)%256=n/256^i%256:=by
   rw[<-pow256,Zap (W:=4294967296) (s:=4) rfl hr,Nat.div_add_mod]
  refine Zb0 i 4 hki rfl ω ω<|k_at [D.v (.int .u32 ((n/4294967296^(i/4)%4294967296:Nat):Int))] (Int.natCast_nonneg _) (by rw[Int.toNat_natCast];exact W_at (Zab hq)) rfl<|Zd3 i 4 hki rfl ω<|Ztz (n/4294967296^(i/4)%4294967296) (i%4*8) rfl hmul ω<|Zdg Zx2 u_u8 ((n/256^i%256:Nat):Int) (by rw[ZnP,hbyte]) ?_;have more:∀h:n/256^i≠0,∀env mem,entail env mem [(0,n3 n),(3,.val (.one (.row 34 0))),(4,int ((i:Int)-1))] [(34,.row 5 1 0 (Y (digs (n/256^(i+1)))++[[D.v (.int .u8 ((n/256^i%256:Nat):Int))]]) true)]->entail env mem [(0,n3 n),(3,.val (.one (.row 34 0))),(4,int ((i:Int)-1))] [(34,.row 5 1 0 (Y (digs (n/256^i))) true)]:=fun h env mem he=>by rw[Zzs h];exact he
  refine fork (fun e2=>?_) (fun e2=>?_)
  .have hne:n/256^i≠0:=by
    intro h;have h2:=oT e2;rw[hYl,<-div256,h,Nat.zero_div,Z2]at h2;simp at h2
   refine⟨fun _=>⟨⟨fun r hr=>by rw[List.mem_singleton.1 hr];rfl,?_,?_⟩,?_⟩,fun e=>by simp at e⟩
   .rw[hYl];show ((digs (n/256^(i+1))).length+1)*1<=_;omega
   .rw[hYl];show (digs (n/256^(i+1))).length+1<=_;omega
   exact⟨i,ω,Nat.lt_succ_self i,more hne _ _ ωE⟩
  .have h2:=oF e2;rw[hYl]at h2;have hz:n/256^(i+1)=0:=ZcU.1 (List.eq_nil_of_length_eq_zero ω);refine⟨fun e3=>?_,fun e3=>?_⟩
   .have hne:n/256^i≠0:=by
     intro h;have h3:=oT e3;rw[h]at h3;simp at h3
    refine⟨⟨fun r hr=>by rw[List.mem_singleton.1 hr];rfl,?_,?_⟩,?_⟩
    .rw[hYl];show ((digs (n/256^(i+1))).length+1)*1<=_;omega
    .rw[hYl];show (digs (n/256^(i+1))).length+1<=_;omega
    exact⟨i,ω,Nat.lt_succ_self i,more hne _ _ ωE⟩
   .have hz2:n/256^i=0:=by
     have h3:=oF e3;rw[<-div256]at hz;omega
    refine⟨i,ω,Nat.lt_succ_self i,?_⟩;constructor<;>(repeat' apply And.intro)<;>first|exact ωq|exact(show Y (digs (n/256^i))=Y (digs (n/256^(i+1))) by rw[hz,hz2])
 .have hk:k=0:=by have:=oF e1;omega
  subst hk;refine⟨_,⟨5,(digs n).map fun b:UInt8=>(b.toNat:Int),by rw[Nat.pow_zero,Nat.div_one];unfold Y;rw[map_map];rfl,Zn4,u_u8,ZxL,rfl⟩,Eq.trans (b:=str (strOfNums ((digs n).map fun b:UInt8=>(b.toNat:Int)))) ?_ rfl⟩;rw[Zsi]
 ) rfl
end
