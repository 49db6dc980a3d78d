/- Joined by wip/bundle.py: XPfd0 XMap1 XPfd2 XPfd3 XPfd5 XPfd6. -/
import Derived.Test.YtnhfpbcbhnfeaaaGreatDoorQGrpRo
import Derived.Test.YtnhfpbcbhnfeaaaGreatDoorQGrpRn
import Derived.Test.YtnhfpbcbhnfeaaaGreatDoorQGrpBf
open List (getElem?_eq_getElem range append_assoc getElem?_append_right take_add_one getElem_of_mem mem_of_getElem? mem_cons_of_mem length_cons take_of_length_le mem_of_mem_take drop_eq_getElem_cons length_take drop_of_length_le mem_cons foldl_cons)
namespace Go.Proofs.YtnhfpbcbhnfeaaaGreatDoor.bfs
open Go.Proofs.YtnhfpbcbhnfeaaaGreatDoor.eng
theorem Zq6{l m:List Int}(h:l.length=m.length)(ha:∀(j:Nat)(x y:Int),j<l.length->l[j]? =some x->m[j]? =some y->x=y):l=m:=by
 refine List.ext_getElem? fun j=>?_;by_cases hj:j<l.length
 .have h1:=gE hj;have h2:=gE (h▸hj:j<m.length);rw[h1,h2,ha j _ _ hj h1 h2]
 .rw[List.getElem?_eq_none ω,List.getElem?_eq_none ω]
def nbW(k:Int)(j:Nat):Int:=if j=0 then IntKind.i64.wrap (k-1) else IntKind.i64.wrap (k+1)
def nbOk(s k:Int)(j:Nat):Prop:=0<=k/\k<=s/\0<=nbW k j/\nbW k j<=s
instance (s k:Int)(j:Nat):Decidable (nbOk s k j):=inferInstanceAs (Decidable (_/\_))
def bes1(s:Int)(l:List Int)(m:Nat):Option (List Int):=
 match l[m/2]? with
 |some k=>if nbOk s k (m%2) then some (l.set (m/2) (nbW k (m%2))) else none
 |none=>none
def besU(s:Int)(l:List Int)(m:Nat):List (List Int):=(range m).filterMap (bes1 s l)
theorem ZbG(s:Int)(l:List Int)(m:Nat):besU s l (m+1)=besU s l m++(bes1 s l m).toList:=by
 unfold besU;rw[List.range_succ,List.filterMap_append];cases h:bes1 s l m<;>simp[h]
def besE(s:Int)(l:List Int):List (List D):=(besU s l (2*l.length)).map fun x=>[.list (List.map intD x)]
theorem Zhx(s:Int)(l:List Int):(besE s l).length=(besU s l (2*l.length)).length:=by simp[besE]
theorem Zuq (s : Int) (l : List Int) {m n : Nat} (h : m <= n) : ∃ r, besU s l n = besU s l m ++ r := by
  induction n with
  | zero => obtain rfl : m = 0 := ω
            exact ⟨[], by simp⟩
  | succ n ih =>
    by_cases e : m = n + 1
    · subst e; exact ⟨[], by simp⟩
    · obtain ⟨r, hr⟩ := ih ω;exact ⟨r ++ (bes1 s l n).toList, by rw [ZbG, hr, append_assoc]⟩
theorem ZdT{s:Int}{l:List Int}{i j:Nat}{k:Int}(hk:l[i]? =some k)(hj:j<2):bes1 s l (2*i+j)=if nbOk s k j then some (l.set i (nbW k j)) else none:=by
 have h1:(2*i+j)/2=i:=ω;have h2:(2*i+j)%2=j:=ω;unfold bes1;rw[h1,h2,hk]
theorem Zup{s:Int}{l:List Int}{i j:Nat}{k:Int}(hk:l[i]? =some k)(hj:j<2)(h:nbOk s k j):(besU s l (2*i+(j+1))).length=(besU s l (2*i+j)).length+1:=by
 rw[<-Nat.add_assoc,ZbG,ZdT hk hj,if_pos h];simp
theorem Zhw{s:Int}{l:List Int}{i j:Nat}{k:Int}(hk:l[i]? =some k)(hj:j<2)(h:¬nbOk s k j):(besU s l (2*i+(j+1))).length=(besU s l (2*i+j)).length:=by
 rw[<-Nat.add_assoc,ZbG,ZdT hk hj,if_neg h];simp
theorem Zxt{s:Int}{l:List Int}{i j:Nat}{k:Int}(hk:l[i]? =some k)(hj:j<2)(h:nbOk s k j):
  (besE s l)[(besU s l (2*i+j)).length]? =some [.list ((l.map intD).set i [.v (.int .i64 (nbW k j))])]:=by
 have hi:i<l.length:=(gS hk).1;obtain⟨r,hr⟩:=Zuq s l (m:=2*i+j+1) (n:=2*l.length) ω;unfold besE;rw[List.getElem?_map,hr,ZbG,ZdT hk hj,if_pos h,append_assoc,getElem?_append_right ω];simp[List.map_set,intD]
theorem ZuI(a b:Int){j:Nat}(h:j<2):([[.v (.int .i64 a)], [.v (.int .i64 b)]]:List (List D))[j]? =some [.v (.int .i64 (if j=0 then a else b))]:=by
 match j,h with
 |0,_=>rfl
 |1,_=>rfl
def inR(s:Int)(l:List Int):Prop:=∀k,k∈l->0<=k/\k<=s
instance (s:Int)(l:List Int):Decidable (inR s l):=inferInstanceAs (Decidable (∀k,k∈l->0<=k/\k<=s))
def spF(n s:Int)(l:List Int):Int:=if (l.length:Int)=n then (if inR s l then 0 else 17) else 1
def numV(b:Int)(l:List Int):Int:=l.foldl (fun a k=>a*b+k) 0
theorem ZeN{b:Int}{l:List Int}{i:Nat}{k:Int}(h:l[i]? =some k):numV b (l.take (i+1))=numV b (l.take i)*b+k:=by
 rw[take_add_one,h];simp[numV]
theorem ZwY{s:Int}{l:List Int}(h:∀(j:Nat)(k:Int),j<l.length->l[j]? =some k->0<=k/\k<=s):inR s l:=fun k hk=>by
 obtain⟨j,hj,e⟩:=getElem_of_mem hk;exact h j k hj (by rw[gE hj,e])
theorem ZzC{n s:Int}{l:List Int}(h:(l.length:Int)≠n):spF n s l=1:=if_neg h
theorem ZxZ{n s:Int}{l:List Int}(h:(l.length:Int)=n)(h2:inR s l):spF n s l=0:=by unfold spF;rw[if_pos h,if_pos h2]
theorem ZuO{n s:Int}{l:List Int}(h:(l.length:Int)=n){j:Nat}{k:Int}(hj:l[j]? =some k)(h2:¬(0<=k/\k<=s)):spF n s l=17:=by
 unfold spF;rw[if_pos h,if_neg fun h3=>h2 (h3 k (mG hj))]
theorem num_step{v k s:Int}{i:Nat}(h0:0<=v)(h1:v<13^i)(hk:0<=k/\k<=s)(hs:s<=12):0<=v*(s+1)+k/\v*(s+1)+k<13^(i+1):=by
 have h2:0<=v*(s+1):=Int.mul_nonneg h0 ω;have h3:v*(s+1)<=v*13:=Int.mul_le_mul_of_nonneg_left ω h0;rw[Int.pow_succ];omega
theorem pow13{i:Nat}(h:i<=3):(13:Int)^i<=2197:=by
 match i,h with
 |0,_=>decide
 |1,_=>decide
 |2,_=>decide
 |3,_=>decide
def ilD(x:List Int):List D:=[.list (x.map intD)]
theorem ZrF{s:Int}{l:List Int}{i j:Nat}{k:Int}(hk:l[i]? =some k)(hj:j<2)(h:nbOk s k j):besU s l (2*i+(j+1))=besU s l (2*i+j)++[l.set i (nbW k j)]:=by
 rw[<-Nat.add_assoc,ZbG,ZdT hk hj,if_pos h];rfl
theorem Zbo{s:Int}{l:List Int}{i j:Nat}{k:Int}(hk:l[i]? =some k)(hj:j<2)(h:¬nbOk s k j):besU s l (2*i+(j+1))=besU s l (2*i+j):=by
 rw[<-Nat.add_assoc,ZbG,ZdT hk hj,if_neg h];simp
theorem Zkh(s:Int)(l:List Int)(m:Nat):(besU s l m).length<=m:=by
 have:=List.length_filterMap_le (bes1 s l) (range m);simpa[besU]using this
theorem Zvb(k:Int)(j:Nat):IntKind.i64.wrap (k+(if j=0 then -1 else 1))=nbW k j:=by
 unfold nbW;split<;>rfl
def ltI:List Int->List Int->Bool
 | [], []=>false
 | [],_::_=>true
 |_::_, []=>false
 |a::p,b::q=>if a<b then true else if b<a then false else ltI p q
theorem ZcA:∀a b c:List Int,ltI a b=true->ltI b c=true->ltI a c=true
 | [], [],_,h,_=>by simp[ltI]at h
 |_::_, [],_,h,_=>by simp[ltI]at h
 | [],_::_, [],_,h=>by simp[ltI]at h
 | [],_::_,_::_,_,_=>rfl
 |_::_,_::_, [],_,h=>by simp[ltI]at h
 |a::p,b::q,c::r,h,g=>by
  unfold ltI at h g⊢;by_cases h1:a<b
  .by_cases g1:b<c
   .rw[if_pos ω]
   .rw[if_neg g1]at g;by_cases g2:c<b
    .rw[if_pos g2]at g;simp at g
    .rw[if_pos ω]
  .rw[if_neg h1]at h;by_cases h2:b<a
   .rw[if_pos h2]at h;simp at h
   .rw[if_neg h2]at h;by_cases g1:b<c
    .rw[if_pos ω]
    .rw[if_neg g1]at g;by_cases g2:c<b
     .rw[if_pos g2]at g;simp at g
     .rw[if_neg g2]at g;rw[if_neg ω,if_neg ω];exact ZcA p q r h g
theorem Zcb:∀a b:List Int,ltI a b=true\/a=b\/ltI b a=true
 | [], []=>.inr (.inl rfl)
 | [],_::_=>.inl rfl
 |_::_, []=>.inr (.inr rfl)
 |a::p,b::q=>by
  unfold ltI;by_cases h1:a<b
  .rw[if_pos h1];exact .inl rfl
  .by_cases h2:b<a
   .exact .inr (.inr (by rw[if_pos h2]))
   .obtain rfl:a=b:=ω;simp only[Int.lt_irrefl,if_false];rcases Zcb p q with h|rfl|h
    .exact .inl h
    .exact .inr (.inl rfl)
    .exact .inr (.inr h)
theorem ZjX:∀a:List Int,¬ltI a a=true
 | []=>by simp[ltI]
 |a::p=>by
  unfold ltI;rw[if_neg ω,if_neg ω];exact ZjX p
def Vs(n:Nat)(s:Int)(l:List Int):Prop:=l.length=n/\inR s l
def nbS(s:Int)(l:List Int):List (List Int):=besU s l (2*l.length)
theorem Zvc{k:Int}{j:Nat}(h:0<=k/\k<=12):nbW k j=if j=0 then k-1 else k+1:=by
 unfold nbW;split
 .exact wrap64 _ ω ω
 .exact wrap64 _ ω ω
theorem ZzN{s:Int}{x y:List Int}(h:y∈nbS s x):∃i j k,j<2/\x[i]? =some k/\nbOk s k j/\y=x.set i (nbW k j):=by
 unfold nbS besU at h;obtain⟨m,_,hm⟩:=List.mem_filterMap.1 h;unfold bes1 at hm;split at hm
 .rename_i k hk;split at hm
  .rename_i hok;exact⟨m/2,m%2,k,Nat.mod_lt _ ω,hk,hok,(sI hm).symm⟩
  .simp at hm
 .simp at hm
theorem ZzM{s:Int}{x:List Int}{i j:Nat}{k:Int}(hj:j<2)(hk:x[i]? =some k)(h:nbOk s k j):x.set i (nbW k j)∈nbS s x:=by
 have hi:=(gS hk).1;refine List.mem_filterMap.2 ⟨2*i+j,List.mem_range.2 ω,?_⟩;rw[ZdT hk hj,if_pos h]
theorem Za4{n:Nat}{s:Int}(hs:s<=12)(x y:List Int)(hx:Vs n s x)(h:y∈nbS s x):Vs n s y/\x∈nbS s y:=by
 obtain⟨i,j,k,hj,hk,hok,rfl⟩:=ZzN h;have hi:=(gS hk).1;obtain⟨h1,h2,h3,h4⟩:=hok;have hw:=Zvc (j:=j) (k:=k) ⟨h1,ω⟩;refine⟨⟨by rw[List.length_set];exact hx.1,fun z hz=>?_⟩,?_⟩
 .rcases List.mem_or_eq_of_mem_set hz with hz|rfl
  .exact hx.2 z hz
  .exact⟨h3,h4⟩
 .have hk':(x.set i (nbW k j))[i]? =some (nbW k j):=by rw[List.getElem?_set_self hi]
  have hw':=Zvc (j:=1-j) (k:=nbW k j) ⟨h3,ω⟩;have hb:nbW (nbW k j) (1-j)=k:=by
   rw[hw',hw];rcases (show j=0\/j=1 by omega) with rfl|rfl<;>simp<;>omega
  have:=ZzM (s:=s) (x:=x.set i (nbW k j)) (i:=i) (j:=1-j) ω hk' ⟨h3,h4,by rw[hb];exact h1,by rw[hb];exact h2⟩;rw[hb,List.set_set]at this;have e:x.set i k=x:=by
   refine List.ext_getElem? fun m=>?_;by_cases em:i=m
   .subst em;rw[List.getElem?_set_self hi,hk]
   .rw[List.getElem?_set_ne em]
  rw[e]at this;exact this
theorem ZlJ{b:Int}(hb:0<b):∀(l m:List Int)(a c:Int),l.length=m.length->(∀k,k∈l->0<=k/\k<b)->(∀k,k∈m->0<=k/\k<b)->l.foldl (fun a k=>a*b+k) a=m.foldl (fun a k=>a*b+k) c->a=c/\l=m
 | [], [],a,c,_,_,_,h=>⟨h,rfl⟩
 |x::l,y::m,a,c,he,hl,hm,h=>by
  obtain⟨h1,h2⟩:=ZlJ hb l m (a*b+x) (c*b+y) (by simpa using he) (fun k hk=>hl k (mem_cons_of_mem _ hk)) (fun k hk=>hm k (mem_cons_of_mem _ hk)) h;have hx:=hl x (by simp);have hy:=hm y (by simp);have hq:a=c:=by
   have e1:(a*b+x)/b=a:=by rw[Int.mul_comm,Int.mul_add_ediv_left _ _ ω,Int.ediv_eq_zero_of_lt hx.1 hx.2];omega
   have e2:(c*b+y)/b=c:=by rw[Int.mul_comm,Int.mul_add_ediv_left _ _ ω,Int.ediv_eq_zero_of_lt hy.1 hy.2];omega
   rw[<-e1,<-e2,h1]
  subst hq;exact⟨rfl,by rw[h2];congr 1;omega⟩
 | [],_::_,_,_,he,_,_,_=>by simp at he
 |_::_, [],_,_,he,_,_,_=>by simp at he
theorem Zlg{n:Nat}{s:Int}(hs:0<=s){l m:List Int}(hl:Vs n s l)(hm:Vs n s m)(h:numV (s+1) l=numV (s+1) m):l=m:=
 (ZlJ (b:=s+1) ω l m 0 0 (by rw[hl.1,hm.1]) (fun k hk=>by have:=hl.2 k hk;omega) (fun k hk=>by have:=hm.2 k hk;omega) h).2
theorem ZqW{b:Int}(hb:0<b):∀(l:List Int)(a c:Int),0<=a->a<c->(∀k,k∈l->0<=k/\k<b)->0<=l.foldl (fun a k=>a*b+k) a/\l.foldl (fun a k=>a*b+k) a<c*b^l.length
 | [],a,c,h0,h1,_=>by simpa using ⟨h0,h1⟩
 |x::l,a,c,h0,h1,hl=>by
  have hx:=hl x (by simp);have e1:0<=a*b:=Int.mul_nonneg h0 ω;have e2:(a+1)*b<=c*b:=Int.mul_le_mul_of_nonneg_right ω ω;rw[Int.add_mul,Int.one_mul]at e2;have:=ZqW hb l (a*b+x) (c*b) ω ω (fun k hk=>hl k (mem_cons_of_mem _ hk));rw[length_cons,Int.pow_succ',<-Int.mul_assoc];exact this
theorem ZjO{n:Nat}{s:Int}(hs:0<=s){l:List Int}(hl:Vs n s l):0<=numV (s+1) l/\numV (s+1) l<(s+1)^n:=by
 have:=ZqW (b:=s+1) ω l 0 1 ω ω (fun k hk=>by have:=hl.2 k hk;omega);rw[hl.1,Int.one_mul]at this;exact this
theorem Zs8{l:List Nat}{n:Nat}(h:l.Nodup)(hs:∀m,m∈l->m<n):l.length<=n:=by
 induction n generalizing l with
 |zero=>
  cases l with
  |nil=>simp
  |cons a l=>exact absurd (hs a (by simp)) ω
 |succ n ih=>
  have h1:=ih (l:=l.erase n) (h.erase n) (fun m hm=>by
   have h2:=hs m (List.mem_of_mem_erase hm);have h3:m≠n:=fun e=>by subst e;exact(List.Nodup.not_mem_erase h) hm
   omega)
  by_cases hm:n∈l
  .have:=List.length_erase_of_mem hm;omega
  .rw[List.erase_of_not_mem hm]at h1;omega
theorem Zbb{n:Nat}{s:Int}(hs:0<=s/\s<=4)(hn:n<=3)(l:List (List Int))(hd:l.Nodup)(hv:∀x,x∈l->Vs n s x):l.length<=125:=by
 have h125:(s+1)^n<=125:=by
  match n,hn with
  |0,_=>simp
  |1,_=>
   have e:(s+1)^1=s+1:=by rw[Int.pow_succ];simp
   rw[e];omega
  |2,_=>
   have:(s+1)*(s+1)<=5*5:=Int.mul_le_mul ω ω ω ω;rw[show (s+1)^2=(s+1)*(s+1) by rw[Int.pow_succ,Int.pow_succ];simp];omega
  |3,_=>
   have h2:(s+1)*(s+1)<=5*5:=Int.mul_le_mul ω ω ω ω;have h3:(s+1)*(s+1)*(s+1)<=25*5:=Int.mul_le_mul ω ω ω ω;rw[show (s+1)^3=(s+1)*(s+1)*(s+1) by rw[Int.pow_succ,Int.pow_succ,Int.pow_succ];simp];omega
 have hm:(l.map fun x=>(numV (s+1) x).toNat).Nodup:=by
  rw[List.Nodup,List.pairwise_map];refine(List.Pairwise.imp_of_mem ?_ hd);intro a b ha hb hne e;have h1:=ZjO hs.1 (hv a ha);have h2:=ZjO hs.1 (hv b hb);exact hne (Zlg hs.1 (hv a ha) (hv b hb) ω)
 have:=Zs8 (n:=125) hm fun m hm=>by
  obtain⟨x,hx,rfl⟩:=List.mem_map.1 hm;have:=ZjO hs.1 (hv x hx);omega
 simpa using this
end Go.Proofs.YtnhfpbcbhnfeaaaGreatDoor.bfs
namespace Go.Proofs.YtnhfpbcbhnfeaaaGreatDoor.mpi
open Go.RowKit num mem seg q held ratA ratB ratC ratD ratE vars ratF eng
def enI(p:(Int×Int)×Nat):MapEntry:=⟨.int .i64 p.1.1,.int .i64 p.1.2,p.2⟩
def entI(l:List (Int×Int)):Array MapEntry:=(l.zipIdx.map enI).toArray
def findI(k:Int):List (Int×Int)->Option Int
 | []=>none
 |p::l=>if k=p.1 then some p.2 else findI k l
theorem ZiL(kd:IntKind)(k:Int):∀(l:List (Int×Int))(i j:Nat),∃r,Instr.findNow (.int kd) (.int .i64 k) ((l.zipIdx j).map enI) i=some r/\(findI k l=none->r=none)/\∀v,findI k l=some v->∃m,r=some (m,.int .i64 v)
 | [],i,j=>⟨none,rfl,fun _=>rfl,fun v h=>by simp[findI]at h⟩
 |p::l,i,j=>by
  obtain⟨r,h1,h2,h3⟩:=ZiL kd k l (i+1) (j+1);have hk:(enI (p,j)).key= .int .i64 p.1:=rfl;have hv:(enI (p,j)).val= .int .i64 p.2:=rfl;rw[List.zipIdx_cons,List.map_cons];unfold Instr.findNow;rw[hk,hv];by_cases e:k=p.1
  .subst e;refine⟨some (i,.int .i64 p.2),by simp[Instr.sameNow],fun h=>by simp[findI]at h,fun v h=>⟨i,?_⟩⟩;have:p.2=v:=by simpa[findI]using h
   rw[this]
  .refine⟨r,?_,fun h=>h2 (by simpa[findI,e]using h),fun v h=>h3 v (by simpa[findI,e]using h)⟩;have hb:(k==p.1)=false:=by simpa using e
   simp only[Instr.sameNow,if_true,hb];exact h1
def isInt:Option TypeDesc->Bool
 |some (.int _)=>true
 |_=>false
theorem ZtT{t:Option TypeDesc}(h:isInt t=true):∃k,t=some (.int k):=by
 unfold isInt at h;split at h
 .exact⟨_,rfl⟩
 .simp at h
theorem ZuH:∃k,Tryz.prog.underlying 3=some (.int k):=ZtT ωr
theorem Zgr:Tryz.prog.underlying 69=some (.map 3 3):=ωr
theorem Zke(e:Bool)(n:Nat)(k:Int)(w:World):(Instr.checkKey e (n+1) 3 (.int .i64 k)).run Tryz.prog w= .ok () w:=by
 obtain⟨kd,hu⟩:=ZuH;simp only[Instr.checkKey,Sem.run_bind,run_underlying hu,Result.andThen_ok,Sem.run_pure]
theorem Zfl(e:Bool)(k:Int)(w:World):(Instr.checkKey e 10000 3 (.int .i64 k)).run Tryz.prog w= .ok () w:=Zke e 9999 k w
theorem Zfa(k:Int)(l:List (Int×Int))(w:World):∃r,(Instr.findKey 3 (.int .i64 k) (entI l).toList).run Tryz.prog w= .ok r w/\(findI k l=none->r=none)/\∀v,findI k l=some v->∃m,r=some (m,.int .i64 v):=by
 obtain⟨kd,hu⟩:=ZuH;obtain⟨r,h1,h2,h3⟩:=ZiL kd k l 0 0;have h0:(entI l).toList=(l.zipIdx 0).map enI:=by simp[entI]
 refine⟨r,?_,h2,h3⟩;rw[h0];simp only[Instr.findKey,Sem.run_bind,run_underlying hu,Result.andThen_ok,h1,Sem.run_pure]
noncomputable def zI(t:Nat):Option Value:=(Tryz.prog.info? t).bind fun i=>i.zero
theorem ZuE(w:World):(zeroValue 3).run Tryz.prog w= .ok (.int .i64 0) w:=by
 have h:zI 3=some (.int .i64 0):=ωr;unfold zI at h
 cases hi:Tryz.prog.info? 3 with
 |none=>rw[hi]at h;simp at h
 |some i=>rw[hi]at h;simp at h;simp[zeroValue,typeInfo,hi,h]
theorem Zyy(l:List (Int×Int))(ok:Bool)(k:Int):LookIs Tryz.prog 69 (some (entI l)) ok (.int .i64 k) (.int .i64 ((findI k l).getD 0)) (findI k l).isSome:=by
 intro w b clock hb;obtain⟨r,h1,h2,h3⟩:=Zfa k l w;have hc:=Zfl (entI l).isEmpty k w
 cases hf:findI k l with
 |none=>
  obtain rfl:=h2 hf;simp only[Instr.lookup,Sem.run_bind,run_underlying Zgr,Result.andThen_ok,Go.MapKept.run_getObj_map hb,Sem.run_pure,hc,h1,ZuE,Option.getD_none,Option.isSome_none];cases ok<;>rfl
 |some v=>
  obtain⟨m,rfl⟩:=h3 v hf;simp only[Instr.lookup,Sem.run_bind,run_underlying Zgr,Result.andThen_ok,Go.MapKept.run_getObj_map hb,Sem.run_pure,hc,h1,Option.getD_some,Option.isSome_some];cases ok<;>rfl
theorem Zln(ok:Bool)(k:Int):LookIs Tryz.prog 69 none ok (.int .i64 k) (.int .i64 0) false:=by
 intro w;obtain⟨r,h1,h2,_⟩:=Zfa k [] w;obtain rfl:=h2 rfl;have hc:=Zfl true k w;have h1:(Instr.findKey 3 (.int .i64 k) []).run Tryz.prog w= .ok none w:=h1;have hc:(Instr.checkKey (#[]:Array MapEntry).isEmpty 10000 3 (.int .i64 k)).run Tryz.prog w= .ok () w:=hc;simp only[Instr.lookup,Sem.run_bind,run_underlying Zgr,Result.andThen_ok,Sem.run_pure];simp only[hc,Result.andThen_ok,h1,Sem.run_bind,ZuE,Sem.run_pure];cases ok<;>rfl
theorem ZuK{l:List (Int×Int)}{k:Int}(v:Int)(h:findI k l=none):MapStep Tryz.prog (fun m=>Instr.mapUpdate 69 m (.int .i64 k) (.int .i64 v)) () (.map (entI l) l.length) (.map (entI (l++[(k,v)])) (l++[(k,v)]).length):=by
 intro w b hb;obtain⟨r,h1,h2,_⟩:=Zfa k l w;obtain rfl:=h2 h;have hc:=Zfl false k w;have he:(entI l).push { key:=.int .i64 k,val:=.int .i64 v,born:=l.length }=entI (l++[(k,v)]):=by
  simp[entI,enI,List.zipIdx_append]
 simp only[Instr.mapUpdate,Sem.run_bind,run_underlying Zgr,Result.andThen_ok,Go.MapKept.run_getObj_map hb,hc,h1,he];simp[Go.MapKept.run_setObj_map _ hb,Go.ChangeMaps.setBlock]
end Go.Proofs.YtnhfpbcbhnfeaaaGreatDoor.mpi
namespace Go.Proofs.YtnhfpbcbhnfeaaaGreatDoor.bfs
open Go.Proofs.YtnhfpbcbhnfeaaaGreatDoor.eng Go.Proofs.YtnhfpbcbhnfeaaaGreatDoor.mpi
def nmS(s:Int)(p:List Int×Nat):Int×Int:=(numV (s+1) p.1,(p.2:Int))
def farE(s:Int)(far:List (List Int×Nat)):Array MapEntry:=entI (far.map (nmS s))
def farM(s:Int)(far:List (List Int×Nat)):Nat:=(far.map (nmS s)).length
section
variable{n:Nat}{s:Int}{fr:List Int->List Int->Bool}{goal src:List Int}
theorem Zfb(hs:0<=s):∀{far:List (List Int×Nat)},(∀x e,(x,e)∈far->Vs n s x)->∀{v:List Int},Vs n s v->findI (numV (s+1) v) (far.map (nmS s))=(getF far v).map fun e=>(e:Int)
 | [],_,v,_=>rfl
 |p::far,hV,v,hv=>by
  have ih:=Zfb hs (far:=far) (fun x e h=>hV x e (mem_cons_of_mem _ h)) hv;rw[List.map_cons,findI];unfold getF at ih⊢;rw[List.find?_cons];by_cases e:p.1=v
  .subst e;simp[nmS]
  .have hp:Vs n s p.1:=hV p.1 p.2 (by simp);have hne:¬numV (s+1) v=(nmS s p).1:=fun h=>e (Zlg hs hp hv h.symm);rw[if_neg hne,ih];simp[e]
theorem Zdb(hs:0<=s){far:List (List Int×Nat)}(hV:∀x e,(x,e)∈far->Vs n s x){v:List Int}(hv:Vs n s v)(ok:Bool):
  LookIs Tryz.prog 69 (some (farE s far)) ok (.int .i64 (numV (s+1) v)) (.int .i64 (((getF far v).getD 0:Nat):Int)) (getF far v).isSome:=by
 have h:=Zyy (far.map (nmS s)) ok (numV (s+1) v);rw[Zfb hs hV hv]at h;have e1:((getF far v).map fun e=>(e:Int)).getD 0=(((getF far v).getD 0:Nat):Int):=by cases getF far v<;>rfl
 have e2:((getF far v).map fun e=>(e:Int)).isSome=(getF far v).isSome:=by cases getF far v<;>rfl
 rw[e1,e2]at h;exact h
theorem Zsm(hs:0<=s){far:List (List Int×Nat)}(hV:∀x e,(x,e)∈far->Vs n s x){v:List Int}(hv:Vs n s v)(hn:¬(getF far v).isSome=true)(e:Nat):
  MapStep Tryz.prog (fun m=>Instr.mapUpdate 69 m (.int .i64 (numV (s+1) v)) (.int .i64 (e:Int))) () (.map (farE s far) (farM s far)) (.map (farE s (far++[(v,e)])) (farM s (far++[(v,e)]))):=by
 have h:=ZuK (l:=far.map (nmS s)) (k:=numV (s+1) v) (e:Int) (by rw[Zfb hs hV hv];simp at hn;rw[hn];rfl);unfold farE farM;rw[List.map_append];exact h
theorem Zop(v:List Int):MapStep Tryz.prog (fun m=>Instr.mapUpdate 69 m (.int .i64 (numV (s+1) v)) (.int .i64 0)) () (.map #[] 0) (.map (farE s [(v,0)]) (farM s [(v,0)])):=
 ZuK (l:=[]) (k:=numV (s+1) v) 0 rfl
def rowK(s:Int)(fr:List Int->List Int->Bool)(row:List (List Int))(far:List (List Int×Nat))(i:Nat):List (List Int×Nat)×List (List Int):=(row.take i).foldl (rowF (nbS s) fr) (far, [])
def stpK(s:Int)(fr:List Int->List Int->Bool)(u:List Int)(S:List (List Int×Nat)×List (List Int))(k:Nat):List (List Int×Nat)×List (List Int):=((nbS s u).take k).foldl (stepF fr u) S
theorem ZuX(row:List (List Int))(far:List (List Int×Nat)):rowK s fr row far 0=(far, []):=rfl
theorem ZxV(u:List Int)(S:List (List Int×Nat)×List (List Int)):stpK s fr u S 0=S:=rfl
theorem ZgQ{row:List (List Int)}(far:List (List Int×Nat)){i:Nat}(h:row.length<=i):rowK s fr row far i=row.foldl (rowF (nbS s) fr) (far, []):=by unfold rowK;rw[take_of_length_le h]
theorem Zsj{u:List Int}(S:List (List Int×Nat)×List (List Int)){k:Nat}(h:(nbS s u).length<=k):stpK s fr u S k=rowF (nbS s) fr S u:=by unfold stpK rowF;rw[take_of_length_le h]
theorem Zex{u y:List Int}(S:List (List Int×Nat)×List (List Int)){k:Nat}(h:(nbS s u)[k]? =some y):stpK s fr u S (k+1)=stepF fr u (stpK s fr u S k) y:=by
 unfold stpK;rw[take_add_one,h];simp
theorem Zo2{row:List (List Int)}{u:List Int}(far:List (List Int×Nat)){i:Nat}(h:row[i]? =some u):rowK s fr row far (i+1)=rowF (nbS s) fr (rowK s fr row far i) u:=by
 unfold rowK;rw[take_add_one,h];simp
theorem ZsL{row:List (List Int)}{u:List Int}(far:List (List Int×Nat)){i k:Nat}(h:row[i]? =some u)(hk:(nbS s u).length<=k):stpK s fr u (rowK s fr row far i) k=rowK s fr row far (i+1):=by
 rw[Zo2 far h,Zsj _ hk]
theorem ZhL{u y:List Int}{S:List (List Int×Nat)×List (List Int)}(h:(getF S.1 y).isSome=true\/fr y u=false):stepF fr u S y=S:=if_pos h
theorem Zos{u y:List Int}{S:List (List Int×Nat)×List (List Int)}(h:¬(getF S.1 y).isSome=true)(hf:fr y u=true){d:Nat}(hd:getF S.1 u=some d):stepF fr u S y=(S.1++[(y,d+1)],S.2++[y]):=by
 unfold stepF;rw[if_neg (fun h1=>h1.elim h fun h1=>by rw[hf]at h1;simp at h1),hd];rfl
structure LvlS(n:Nat)(s:Int)(fr:List Int->List Int->Bool)(goal:List Int)(d:Nat)(row:List (List Int))(far:List (List Int×Nat)):Prop where
 lvl:Lvl (Egd (nbS s) fr) (Vs n s) goal d far row
 big:row≠ []->d+1<=far.length
 short:row.length<=125
theorem Zyv(hg:Vs n s goal):LvlS n s fr goal 0 [goal] [(goal,0)]:=⟨Zwv hg,fun _=>by simp,by simp⟩
theorem Lvl.short(hs:0<=s/\s<=4)(hn:n<=3){d:Nat}{row:List (List Int)}{far:List (List Int×Nat)}(L:Lvl (Egd (nbS s) fr) (Vs n s) goal d far row):far.length<=125:=by
 have:=Zbb ⟨hs.1,hs.2⟩ hn (far.map (·.1)) L.key (fun x hx=>by obtain⟨⟨a,e⟩,h1,rfl⟩:=List.mem_map.1 hx;exact(L.ok a e h1).1);simpa using this
theorem LvlS.next(hs:0<=s/\s<=4)(hn:n<=3){d:Nat}{row:List (List Int)}{far:List (List Int×Nat)}(L:LvlS n s fr goal d row far)(hne:row≠ []):
  LvlS n s fr goal (d+1) (rowK s fr row far row.length).2 (rowK s fr row far row.length).1/\(rowK s fr row far row.length).1.length=far.length+(rowK s fr row far row.length).2.length:=by
 have hl:(rowK s fr row far row.length).1.length=far.length+(rowK s fr row far row.length).2.length:=by
  rw[ZgQ far (Nat.le_refl _)];exact ZgN row (far, []) far.length (by simp)
 have hL:Lvl (Egd (nbS s) fr) (Vs n s) goal (d+1) (rowK s fr row far row.length).1 (rowK s fr row far row.length).2:=by
  rw[ZgQ far (Nat.le_refl _)];exact L.lvl.next (Za4 ω)
 have h3:=Lvl.short hs hn hL;refine⟨⟨hL,fun h=>?_,ω⟩,hl⟩;have:=L.big hne;have:=List.length_pos_iff.2 h;omega
structure InRow(n:Nat)(s:Int)(d:Nat)(u:List Int)(S:List (List Int×Nat)×List (List Int)):Prop where
 spot:∀x e,(x,e)∈S.1->Vs n s x
 far:S.1.length<=125
 next:S.2.length<=125
 at':getF S.1 u=some d
 u:Vs n s u
 d:d<=124
theorem LvlS.inRow(hs:0<=s/\s<=4)(hn:n<=3){d:Nat}{row:List (List Int)}{far:List (List Int×Nat)}(L:LvlS n s fr goal d row far){i:Nat}{u:List Int}(hu:row[i]? =some u)(k:Nat):InRow n s d u (stpK s fr u (rowK s fr row far i) k):=by
 have hmem:u∈row:=mG hu;have hsym:=Za4 (n:=n) (s:=s) ω;have hrow:=fun v hv=>(L.lvl.row v).1 hv;obtain⟨hdu,hVu⟩:=hrow u hmem;have p1:=Zek (fr:=fr) hsym (row.take i) far [] _ (fun v hv=>hrow v (mem_of_mem_take hv)) L.lvl.part;have p2:=ZjL (fr:=fr) hsym hdu hVu ((nbS s u).take k) _ _ _ (fun y hy=>mem_of_mem_take hy) p1;have hlen0:far.length<=125:=by
  have:=Zbb ⟨hs.1,hs.2⟩ hn (far.map (·.1)) L.lvl.key (fun x hx=>by obtain⟨⟨a,e⟩,h1,rfl⟩:=List.mem_map.1 hx;exact(L.lvl.ok a e h1).1);simpa using this
 have hd:=L.big (fun h=>by rw[h]at hmem;simp at hmem);have hS:∀S:List (List Int×Nat)×List (List Int),S.1.length=far.length+S.2.length->∀l:List (List Int),(l.foldl (stepF fr u) S).1.length=far.length+(l.foldl (stepF fr u) S).2.length:=by
  intro S h l
  induction l generalizing S with
  |nil=>exact h
  |cons y l ih=>exact ih _ (ZhM u S y _ h)
 have e1:=hS (rowK s fr row far i) (ZgN (row.take i) (far, []) far.length (by simp)) ((nbS s u).take k);have e2:(stpK s fr u (rowK s fr row far i) k).1.length<=125:=by
  have:=Zbb ⟨hs.1,hs.2⟩ hn ((stpK s fr u (rowK s fr row far i) k).1.map (·.1)) p2.key (fun x hx=>by obtain⟨⟨a,e⟩,h1,rfl⟩:=List.mem_map.1 hx;exact(p2.ok a e h1).1);simpa using this
 refine⟨fun x e h=>(p2.ok x e h).1,e2,?_,Zdl p2.uniq (p2.all u d hVu (Nat.le_refl _) hdu),hVu,ω⟩;have e3:(stpK s fr u (rowK s fr row far i) k).1.length=far.length+(stpK s fr u (rowK s fr row far i) k).2.length:=e1;omega
theorem LvlS.len(hs:0<=s/\s<=4)(hn:n<=3){d:Nat}{row:List (List Int)}{far:List (List Int×Nat)}(L:LvlS n s fr goal d row far):far.length<=125:=by
 have:=Zbb ⟨hs.1,hs.2⟩ hn (far.map (·.1)) L.lvl.key (fun x hx=>by obtain⟨⟨a,e⟩,h1,rfl⟩:=List.mem_map.1 hx;exact(L.lvl.ok a e h1).1);simpa using this
theorem ZfI{α:Type}{x:α}:∀{p q r t:List α},x ∉ p->x ∉ q->p++x::r=q++x::t->p=q
 | [], [],_,_,_,_,_=>rfl
 |a::p,b::q,r,t,h1,h2,e=>by
  obtain⟨e1,e2⟩:=List.cons.inj e;rw[e1,ZfI (fun h=>h1 (mem_cons_of_mem _ h)) (fun h=>h2 (mem_cons_of_mem _ h)) e2]
 | [],b::q,_,_,_,h2,e=>absurd (List.cons.inj e).1 (fun h=>h2 (by simp[h]))
 |a::p, [],_,_,h1,_,e=>absurd (List.cons.inj e).1 (fun h=>h1 (by simp[h]))
theorem Ztf{far F:List (List Int×Nat)}(h:Meas (nbS s) fr src [] far F):F=far:=by
 generalize e:([]:List (List Int))=row at h
 cases h with
 |nil=>rfl
 |hit pre post _ _=>simp at e
 |step _ _ _ hne=>exact absurd e.symm hne
theorem Ztg{row:List (List Int)}{far F:List (List Int×Nat)}{i:Nat}(h:Meas (nbS s) fr src row far F)(hi:row[i]? =some src)(hp:∀(j:Nat)(x:List Int),j<i->row[j]? =some x->x≠src):F=(rowK s fr row far i).1:=by
 have hlt:i<row.length:=(gS hi).1;have hsp:row=row.take i++src::row.drop (i+1):=by
  have h1:=List.take_append_drop i row;rw[drop_eq_getElem_cons hlt]at h1;rw[(gS hi).2]at h1;exact h1.symm
 have hni:src ∉ row.take i:=fun hm=>by
  obtain⟨j,hj,e⟩:=getElem_of_mem hm;rw[length_take]at hj;rw[List.getElem_take]at e;exact hp j src ω (by rw[<-e];exact gE ω) rfl
 cases h with
 |nil=>simp at hlt
 |hit pre post _ hpre=>
  have:=ZfI hpre hni hsp;exact congrArg (fun p=>(p.foldl (rowF (nbS s) fr) (far, [])).1) this
 |step _ _ _ _ hno=>exact absurd (mG hi) hno
theorem ZpV{row:List (List Int)}{far F:List (List Int×Nat)}(h:Meas (nbS s) fr src row far F)(hne:row≠ [])(hp:∀(j:Nat)(x:List Int),j<row.length->row[j]? =some x->x≠src):Meas (nbS s) fr src (rowK s fr row far row.length).2 (rowK s fr row far row.length).1 F:=by
 have hni:src ∉ row:=fun hm=>by
  obtain⟨j,hj,e⟩:=getElem_of_mem hm;exact hp j src hj (by rw[<-e];exact gE hj) rfl
 rw[ZgQ far (Nat.le_refl _)]
 cases h with
 |nil=>exact absurd rfl hne
 |hit pre post _ _=>exact absurd (by simp) hni
 |step _ _ _ _ _ h=>exact h
theorem LvlS.mu(hs:0<=s/\s<=4)(hn:n<=3){d:Nat}{row:List (List Int)}{far:List (List Int×Nat)}(L:LvlS n s fr goal d row far)(hne:row≠ []):
  2*(126-(rowK s fr row far row.length).1.length)+(if (rowK s fr row far row.length).2= [] then 0 else 1)<2*(126-far.length)+(if row= [] then 0 else 1):=by
 obtain⟨h1,h2⟩:=L.next hs hn hne;have h3:=h1.len hs hn;rw[if_neg hne];split
 .rename_i e;rw[e]at h2;simp at h2;omega
 .rename_i e;have:=List.length_pos_iff.2 e;omega
theorem Zha(hs:0<=s){far:List (List Int×Nat)}(hV:∀x e,(x,e)∈far->Vs n s x){v:List Int}(hv:Vs n s v){d:Nat}(hd:getF far v=some d)(ok:Bool):
  LookIs Tryz.prog 69 (some (farE s far)) ok (.int .i64 (numV (s+1) v)) (.int .i64 (d:Int)) true:=by
 have h:=Zdb hs hV hv ok;rw[hd]at h;exact h
theorem Zoo(hs:0<=s){far:List (List Int×Nat)}(hV:∀x e,(x,e)∈far->Vs n s x){v:List Int}(hv:Vs n s v)(hn:¬(getF far v).isSome=true){d:Nat}(hd:d<=124):
  MapStep Tryz.prog (fun m=>Instr.mapUpdate 69 m (.int .i64 (numV (s+1) v)) (.int .i64 (IntKind.i64.wrap ((d:Int)+1)))) () (.map (farE s far) (farM s far)) (.map (farE s (far++[(v,d+1)])) (farM s (far++[(v,d+1)]))):=by
 have e:IntKind.i64.wrap ((d:Int)+1)=((d+1:Nat):Int):=wrap64 _ ω ω;rw[e];exact Zsm hs hV hv hn (d+1)
theorem Zma{l:List Int}{k:Nat}{ds:List D}(h:(besE s l)[k]? =some ds):∃y,(nbS s l)[k]? =some y/\ds= [.list (y.map intD)]:=by
 unfold besE at h;rw[List.getElem?_map]at h;obtain⟨y,h1,h2⟩:=Option.map_eq_some_iff.1 h;exact⟨y,h1,h2.symm⟩
theorem Zl9{l:List Int}{ds:List D}(h:ds∈besE s l):ds.length=1:=by
 obtain⟨y,_,rfl⟩:=List.mem_map.1 h;rfl
end
attribute [irreducible] rowK stpK farE farM
def cmp1(x y:Int):Int:=if x<y then -1 else if y<x then 1 else 0
def cmpL:List Int->List Int->Int
 | [], []=>0
 | [],_::_=> -1
 |_::_, []=>1
 |a::p,b::q=>if a<b then -1 else if b<a then 1 else cmpL p q
theorem Zfk:∀p q:List Int,cmpL p q<0↔ltI p q=true
 | [], []=>by simp[cmpL,ltI]
 | [],_::_=>by simp[cmpL,ltI]
 |_::_, []=>by simp[cmpL,ltI]
 |a::p,b::q=>by
  unfold cmpL ltI;by_cases h:a<b
  .simp[h]
  .by_cases g:b<a
   .simp[h,g]
   .simp only[h,g,if_false];exact Zfk p q
theorem drop_at{l:List Int}{i:Nat}{x:Int}(h:l[i]? =some x):l.drop i=x::l.drop (i+1):=by
 have hi:=(gS h).1;rw[drop_eq_getElem_cons hi,(gS h).2]
theorem Zrx{p q:List Int}{i:Nat}{x y:Int}(hp:p[i]? =some x)(hq:q[i]? =some y)(h:cmpL p q=cmpL (p.drop i) (q.drop i))(e:cmp1 x y=0):cmpL p q=cmpL (p.drop (i+1)) (q.drop (i+1)):=by
 rw[h,drop_at hp,drop_at hq,cmpL];unfold cmp1 at e;by_cases h1:x<y
 .rw[if_pos h1]at e;simp at e
 .rw[if_neg h1]at e⊢;by_cases h2:y<x
  .rw[if_pos h2]at e;simp at e
  .rw[if_neg h2]
theorem Zxk{p q:List Int}{i:Nat}{x y:Int}(hp:p[i]? =some x)(hq:q[i]? =some y)(h:cmpL p q=cmpL (p.drop i) (q.drop i))(e:cmp1 x y≠0):cmpL p q=cmp1 x y:=by
 rw[h,drop_at hp,drop_at hq,cmpL];unfold cmp1 at e⊢;by_cases h1:x<y
 .rw[if_pos h1,if_pos h1]
 .rw[if_neg h1]at e⊢;rw[if_neg h1];by_cases h2:y<x
  .rw[if_pos h2,if_pos h2]
  .rw[if_neg h2]at e;exact absurd rfl e
theorem Zxl{p q:List Int}{i:Nat}{x:Int}(hp:p[i]? =some x)(hq:q.length<=i)(h:cmpL p q=cmpL (p.drop i) (q.drop i)):cmpL p q=1:=by
 rw[h,drop_at hp,drop_of_length_le hq,cmpL]
theorem Zuh{p q:List Int}{i:Nat}(hp:p.length<=i)(hq:i<q.length)(h:cmpL p q=cmpL (p.drop i) (q.drop i)):cmpL p q=-1:=by
 rw[h,drop_of_length_le hp,drop_eq_getElem_cons hq,cmpL]
theorem Zxm{p q:List Int}{i:Nat}(hp:p.length<=i)(hq:q.length<=i)(h:cmpL p q=cmpL (p.drop i) (q.drop i)):cmpL p q=0:=by
 rw[h,drop_of_length_le hp,drop_of_length_le hq,cmpL]
section
variable{n:Nat}{s:Int}{fr:List Int->List Int->Bool}{F:List (List Int×Nat)}{gl sr u y:List Int}{e:Nat}{b:Option (List Int)}
def lmK(s:Int)(fr:List Int->List Int->Bool)(F:List (List Int×Nat))(u:List Int)(e c:Nat):Option (List Int):=((nbS s u).take c).foldl (lmnS fr ltI F u e) none
theorem ZzR:lmK s fr F u e 0=none:=rfl
theorem Zwx{c:Nat}(h:(nbS s u).length<=c):lmK s fr F u e c=lmn (nbS s) fr ltI F u e:=by unfold lmK lmn;rw[take_of_length_le h]
theorem Zlp{c:Nat}(h:(nbS s u)[c]? =some y):lmK s fr F u e (c+1)=lmnS fr ltI F u e (lmK s fr F u e c) y:=by
 unfold lmK;rw[take_add_one,h];simp
theorem Zp3{c:Nat}(h:(nbS s u)[c]? =some y)(hb:b=lmK s fr F u e c)(h1:getF F y=some e)(h2:∀x,b=some x->ltI y x=true)(h3:fr u y=true):some y=lmK s fr F u e (c+1):=by
 rw[Zlp h,<-hb];exact(if_pos ⟨h1,h2,h3⟩).symm
theorem ZeT{c:Nat}(h:(nbS s u)[c]? =some y)(hb:b=lmK s fr F u e c)(hn:¬(getF F y=some e/\(∀x,b=some x->ltI y x=true)/\fr u y=true)):b=lmK s fr F u e (c+1):=by
 rw[Zlp h,<-hb];exact(if_neg hn).symm
theorem Zt5(he:e<=200)(h1:(getF F y).isSome=true):(((getF F y).getD 0:Nat):Int)=IntKind.i64.wrap (((e+1:Nat):Int)-1)↔getF F y=some e:=by
 obtain⟨k,hk⟩:=Option.isSome_iff_exists.1 h1;rw[hk,wrap64 _ ω ω];simp only[Option.getD_some,Option.some.injEq];omega
theorem ZzQ{c:Nat}{b:List Int}(hs:s<=12)(hu:Vs n s u)(h:some b=lmK s fr F u e c):Vs n s b:=by
 have h1:=(Zhb (fr:=fr) (F:=F) (u:=u) (e:=e) ZcA Zcb ((nbS s u).take c) none [] (fun c hc=>by simp at hc) (fun _ v hv=>by simp at hv)).1 b h.symm;exact(Za4 hs u b hu (mem_of_mem_take (by simpa using h1.1))).1
structure OnW(n:Nat)(s:Int)(fr:List Int->List Int->Bool)(F:List (List Int×Nat))(gl sr:List Int)(D:Nat)(o:List (List Int))(u:List Int)(d:Nat):Prop where
 spot:Vs n s u
 dst:Dst (Egd (nbS s) fr) u gl d
 le:d<=D
 len:o.length+d=D
 way:o++wlk (nbS s) fr ltI F d u=wlk (nbS s) fr ltI F D sr
variable{D d:Nat}{o:List (List Int)}
theorem ZzJ(hs:Vs n s sr)(hd:Dst (Egd (nbS s) fr) sr gl D):OnW n s fr F gl sr D [] sr D:=⟨hs,hd,Nat.le_refl _,by simp,rfl⟩
theorem OnW.at'(P:Srch (Egd (nbS s) fr) (Vs n s) sr gl F)(hD:Dst (Egd (nbS s) fr) sr gl D)(h:OnW n s fr F gl sr D o u d):getF F u=some d:=
 Zdl P.uniq (P.all D hD u d h.spot h.le h.dst)
theorem OnW.next(hs:s<=12)(P:Srch (Egd (nbS s) fr) (Vs n s) sr gl F)(hD:Dst (Egd (nbS s) fr) sr gl D)(h:OnW n s fr F gl sr D o u (d+1)):∃c,lmn (nbS s) fr ltI F u d=some c/\OnW n s fr F gl sr D (o++[u]) c d:=by
 obtain⟨c,hb,hc1,hc2,hc3,hc4,hc5,hc6⟩:=Zlo ZcA Zcb (Za4 hs) P hD h.spot h.dst h.le;have e:wlk (nbS s) fr ltI F (d+1) u=u::wlk (nbS s) fr ltI F d c:=by
  show u::_=_;rw[hb]
 have h1:=h.way;rw[e]at h1;have h2:=h.le;have h3:=h.len;exact⟨c,hb,hc4,hc5,ω,by rw[List.length_append,List.length_singleton];omega,by rw[append_assoc];exact h1⟩
theorem OnW.last(h:OnW n s fr F gl sr D o u 0):o++[u]=wlk (nbS s) fr ltI F D sr:=h.way
end
theorem Zyk(o:List (List Int))(u b:List Int):(List.map ilD (o++[u])++[[.list (b.map intD)]])[o.length+1]? =some [.list (b.map intD)]:=by
 rw[getElem?_append_right (by simp)];simp
theorem Zwg(o:List (List Int))(u b:List Int):(List.map ilD (o++[u])++[[D.list (b.map intD)]]).length=o.length+2:=by simp
theorem Zs2(o:List (List Int))(u b:List Int):List.map ilD (o++[u]++[b])=List.map ilD (o++[u])++[[D.list (b.map intD)]]:=by
 rw[List.map_append];rfl
def bestC:Option (List Int)->C
 |none=>.d (.v (.slice none 0 0))
 |some b=>.d (.list (b.map intD))
attribute [irreducible] lmK
def insR(x:List Int):List (List Int)->List (List Int)
 | []=>[x]
 |y::r=>if ltI x y=true then y::insR x r else x::y::r
def insL(p:List (List Int))(x:List Int):List (List Int):=(insR x p.reverse).reverse
theorem ZtY(x:List Int):insL [] x= [x]:=rfl
theorem ZiI(q:List (List Int))(y x:List Int):insL (q++[y]) x=if ltI x y=true then insL q x++[y] else q++[y]++[x]:=by
 unfold insL;rw[List.reverse_append,List.reverse_singleton,List.singleton_append,insR];split<;>simp
theorem ZlF(x:List Int):∀r:List (List Int),(insR x r).length=r.length+1
 | []=>rfl
 |y::r=>by unfold insR;split<;>simp[ZlF x r]
theorem Zt0(p:List (List Int))(x:List Int):(insL p x).length=p.length+1:=by unfold insL;rw[List.length_reverse,ZlF,List.length_reverse]
theorem Zhg(x z:List Int):∀r:List (List Int),z∈insR x r↔z∈r\/z=x
 | []=>by simp[insR]
 |y::r=>by
  unfold insR;split
  .rw[mem_cons,Zhg x z r,mem_cons,or_assoc]
  .simp only[mem_cons];constructor
   .rintro(h|h|h)<;>simp[h]
   .rintro((h|h)|h)<;>simp[h]
theorem ZtZ(p:List (List Int))(x z:List Int):z∈insL p x↔z∈p\/z=x:=by unfold insL;rw[List.mem_reverse,Zhg,List.mem_reverse]
theorem ZlE(x:List Int):∀r:List (List Int),r.Pairwise (fun a b=>¬ltI a b=true)->(insR x r).Pairwise (fun a b=>¬ltI a b=true)
 | [],_=>by simp[insR]
 |y::r,h=>by
  obtain⟨h1,h2⟩:=List.pairwise_cons.1 h;unfold insR;split
  .rename_i hlt;refine List.pairwise_cons.2 ⟨fun z hz=>?_,ZlE x r h2⟩;rcases (Zhg x z r).1 hz with hz|rfl
   .exact h1 z hz
   .exact fun g=>ZjX y (ZcA _ _ _ g hlt)
  .rename_i hlt;refine List.pairwise_cons.2 ⟨fun z hz=>?_,h⟩;rcases List.mem_cons.1 hz with rfl|hz2
   .exact hlt
   .intro g;rcases Zcb x y with h3|h3|h3
    .exact hlt h3
    .exact h1 z hz2 (h3▸g)
    .exact h1 z hz2 (ZcA _ _ _ h3 g)
theorem ZtX{p:List (List Int)}(x:List Int)(h:p.Pairwise (fun a b=>¬ltI b a=true)):(insL p x).Pairwise (fun a b=>¬ltI b a=true):=by
 unfold insL;rw[List.pairwise_reverse];exact ZlE x _ (by rw[List.pairwise_reverse];exact h)
def srtL(l:List (List Int)):List (List Int):=l.foldl insL []
theorem Zot(l:List (List Int))(x:List Int):srtL (l++[x])=insL (srtL l) x:=by simp[srtL]
theorem ZkN(l:List (List Int)):(srtL l).length=l.length:=by
 have key:∀(l p:List (List Int)),(l.foldl insL p).length=p.length+l.length:=by
  intro l
  induction l with
  |nil=>intro p;rfl
  |cons x l ih=>intro p;rw[foldl_cons,ih,Zt0,length_cons];omega
 have:=key l [];simpa[srtL]using this
theorem ZkM(l:List (List Int))(z:List Int):z∈srtL l↔z∈l:=by
 have key:∀(l p:List (List Int)),z∈l.foldl insL p↔z∈p\/z∈l:=by
  intro l
  induction l with
  |nil=>intro p;simp
  |cons x l ih=>intro p;rw[foldl_cons,ih,ZtZ,mem_cons,or_assoc]
 have:=key l [];simpa[srtL]using this
theorem Zso(l:List (List Int)):(srtL l).Pairwise (fun a b=>¬ltI b a=true):=by
 have key:∀(l p:List (List Int)),p.Pairwise (fun a b=>¬ltI b a=true)->(l.foldl insL p).Pairwise (fun a b=>¬ltI b a=true):=by
  intro l
  induction l with
  |nil=>intro p h;exact h
  |cons x l ih=>intro p h;rw[foldl_cons];exact ih _ (ZtX x h)
 exact key l [] List.Pairwise.nil
def sP(l:List (List Int))(i:Nat):List (List Int):=srtL (l.take i)
theorem ZuT{l:List (List Int)}{i:Nat}(h:i<=l.length):(sP l i).length=i:=by unfold sP;rw[ZkN,length_take];omega
theorem Zv3{l:List (List Int)}{i:Nat}{x:List Int}(h:l[i]? =some x):sP l (i+1)=insL (sP l i) x:=by
 unfold sP;rw[take_add_one,h];exact Zot _ _
theorem Zx4{l:List (List Int)}{i:Nat}{x:List Int}(h:x∈sP l i):x∈l:=mem_of_mem_take ((ZkM _ _).1 h)
def sD(l:List (List Int))(i:Nat):List (List Int):=sP l i++l.drop i
theorem sD_1(l:List (List Int)):sD l 1=l:=by
 cases l with
 |nil=>rfl
 |cons x l=>rfl
theorem Zx5{l:List (List Int)}{i:Nat}(h:l.length<=i):sD l i=srtL l:=by unfold sD sP;rw[take_of_length_le h,drop_of_length_le h,List.append_nil]
def insD(p:List (List Int))(x:List Int)(j:Nat)(r:List (List Int)):List (List Int):=p.take j++x::(p.drop j++r)
theorem Zt1{p:List (List Int)}{x:List Int}{j:Nat}{r:List (List Int)}:(insD p x j r).length=p.length+r.length+1:=by
 unfold insD;simp only[List.length_append,length_cons,length_take,List.length_drop];omega
theorem Zvx{l:List (List Int)}{i:Nat}{x:List Int}(h:l[i]? =some x):insD (sP l i) x i (l.drop (i+1))=sD l i:=by
 have hi:=(gS h).1;have e:l.drop i=x::l.drop (i+1):=by rw[drop_eq_getElem_cons hi,(gS h).2]
 unfold insD sD;have hl:=ZuT (l:=l) (i:=i) ω;rw[take_of_length_le ω,drop_of_length_le ω,List.nil_append,e]
theorem ZqI{p:List (List Int)}{x:List Int}{j:Nat}{r:List (List Int)}(h:j<=p.length):(insD p x j r)[j]? =some x:=by
 unfold insD;rw[getElem?_append_right (by rw[length_take];omega),length_take,Nat.min_eq_left h,Nat.sub_self];rfl
theorem Ze3{p:List (List Int)}{y:List Int}{j:Nat}(hj:0<j)(hy:p[j-1]? =some y):p.take j=p.take (j-1)++[y]/\p.drop (j-1)=y::p.drop j:=by
 obtain⟨m,rfl⟩:∃m,j=m+1:=⟨j-1,ω⟩;simp only[Nat.add_sub_cancel]at hy⊢;have hm:=(gS hy).1;exact⟨by rw[take_add_one,hy];rfl,by rw[drop_eq_getElem_cons hm,(gS hy).2]⟩
theorem ZlG{p:List (List Int)}{x y:List Int}{j:Nat}{r:List (List Int)}(hj:0<j)(hy:p[j-1]? =some y):(insD p x j r)[j-1]? =some y:=by
 have hm:=(gS hy).1;unfold insD;rw[List.getElem?_append_left (by rw[length_take];omega),List.getElem?_take_of_lt ω,hy]
theorem ZqH{p:List (List Int)}{x y:List Int}{j:Nat}{r:List (List Int)}(hj:0<j)(hy:p[j-1]? =some y):((insD p x j r).set j y).set (j-1) x=insD p x (j-1) r:=by
 obtain⟨h1,h2⟩:=Ze3 hj hy;have hm:=(gS hy).1;have hq:(p.take (j-1)).length=j-1:=by rw[length_take];omega
 unfold insD;rw[h1,h2];generalize p.take (j-1)=q at hq;obtain⟨m,rfl⟩:∃m,j=m+1:=⟨j-1,ω⟩;simp only[Nat.add_sub_cancel]at hq⊢;subst hq;simp
theorem ZtW{p:List (List Int)}{x y:List Int}{j:Nat}(hj:0<j)(hy:p[j-1]? =some y)(h:ltI x y=true)(g:insL p x=insL (p.take j) x++p.drop j):insL p x=insL (p.take (j-1)) x++p.drop (j-1):=by
 obtain⟨h1,h2⟩:=Ze3 hj hy;rw[g,h1,ZiI,if_pos h,h2];simp
theorem ZtV{p:List (List Int)}{x y:List Int}{j:Nat}(r:List (List Int))(hj:0<j)(hy:p[j-1]? =some y)(h:¬ltI x y=true)(g:insL p x=insL (p.take j) x++p.drop j):insD p x j r=insL p x++r:=by
 obtain⟨h1,h2⟩:=Ze3 hj hy;unfold insD;rw[g,h1,ZiI,if_neg h];simp
theorem ZtU{p:List (List Int)}{x:List Int}(r:List (List Int))(g:insL p x=insL (p.take 0) x++p.drop 0):insD p x 0 r=insL p x++r:=by
 unfold insD;rw[g];simp[ZtY]
theorem ZgK{l:List (List Int)}{i:Nat}{x:List Int}(h:l[i]? =some x):sD l (i+1)=insL (sP l i) x++l.drop (i+1):=by unfold sD;rw[Zv3 h]
theorem ZwX{p:List (List Int)}{x:List Int}{i:Nat}(h:p.length<=i):insL p x=insL (p.take i) x++p.drop i:=by rw[take_of_length_le h,drop_of_length_le h,List.append_nil]
attribute [irreducible] sD insD
def lsD(l:List (List Int)):List D:=[.list (l.map ilD)]
section
variable{n:Nat}{s:Int}{fr:List Int->List Int->Bool}{u v:List Int}
def srtN(s:Int)(x:List Int):List (List Int):=srtL (nbS s x)
abbrev ltP(a b:List Int):Prop:=ltI a b=true
theorem Zgx(s:Int)(x w:List Int):w∈srtN s x↔w∈nbS s x:=ZkM _ _
theorem Zgy(s:Int)(x:List Int):(srtN s x).length<=2*x.length:=by unfold srtN nbS;rw[ZkN];exact Zkh ..
theorem ZuL(hs:s<=12){x w:List Int}(hx:Vs n s x)(hw:w∈srtN s x):Vs n s w:=(Za4 hs x w hx ((Zgx s x w).1 hw)).1
theorem hsN:∀x w:List Int,Vs n s x->(w∈srtN s x->(fr x w=true↔Egd (nbS s) fr x w))/\(Egd (nbS s) fr x w->w∈srtN s x):=
 fun x w _=>⟨fun h=>⟨fun g=>⟨(Zgx s x w).1 h,g⟩,fun g=>g.2⟩,fun h=>(Zgx s x w).2 h.1⟩
theorem hpN:∀x:List Int,Vs n s x->(srtN s x).Pairwise fun a b=>¬ltP b a:=fun _ _=>Zso _
theorem hVN(hs:s<=12):∀x y:List Int,Vs n s x->Egd (nbS s) fr x y->Vs n s y:=fun x y hx h=>(Za4 hs x y hx h.1).1
def rowsG(s:Int)(fr:List Int->List Int->Bool)(seen:List (List Int))(lists:List (List (List Int)))(i:Nat):List (List (List Int))×List (List Int):=(lists.take i).foldl (rowG (srtN s) fr [] seen) ([], [])
def stpG(s:Int)(fr:List Int->List Int->Bool)(seen:List (List Int))(l:List (List Int))(S:List (List (List Int))×List (List Int))(k:Nat):List (List (List Int))×List (List Int):=((srtN s (lstO [] l)).take k).foldl (stepR fr seen l (lstO [] l)) S
variable{seen:List (List Int)}{lists:List (List (List Int))}{l:List (List Int)}{S:List (List (List Int))×List (List Int)}
theorem ZgM:rowsG s fr seen lists 0=([], []):=rfl
theorem ZxW:stpG s fr seen l S 0=S:=rfl
theorem ZfQ{i:Nat}(h:lists[i]? =some l):rowsG s fr seen lists (i+1)=rowG (srtN s) fr [] seen (rowsG s fr seen lists i) l:=by
 unfold rowsG;rw[take_add_one,h];simp
theorem Zo0{i:Nat}(h:lists.length<=i):rowsG s fr seen lists i=lists.foldl (rowG (srtN s) fr [] seen) ([], []):=by unfold rowsG;rw[take_of_length_le h]
theorem Zc1{k:Nat}{w:List Int}(h:(srtN s (lstO [] l))[k]? =some w):stpG s fr seen l S (k+1)=stepR fr seen l (lstO [] l) (stpG s fr seen l S k) w:=by
 unfold stpG;rw[take_add_one,h];simp
theorem Zsl{i k:Nat}(h:lists[i]? =some l)(hk:(srtN s (lstO [] l)).length<=k):stpG s fr seen l (rowsG s fr seen lists i) k=rowsG s fr seen lists (i+1):=by
 rw[ZfQ h];unfold stpG rowG;rw[take_of_length_le hk]
theorem Zey{x w:List Int}(h:w∈seen\/w∈S.2\/fr x w=false):stepR fr seen l x S w=S:=if_pos h
theorem Zoq{x w:List Int}(h1:¬w∈seen)(h2:¬w∈S.2)(h3:fr x w=true):stepR fr seen l x S w=(S.1++[l++[w]],S.2++[w]):=
 if_neg (by rintro(h|h|h);exact h1 h;exact h2 h;rw[h3]at h;simp at h)
theorem Zor(x w:List Int):(stepR fr seen l x S w).1.length<=S.1.length+1/\(stepR fr seen l x S w).2.length<=S.2.length+1:=by
 unfold stepR;split
 .omega
 .simp
theorem Zhm(x:List Int):∀(ws:List (List Int))(S:List (List (List Int))×List (List Int)),(ws.foldl (stepR fr seen l x) S).1.length<=S.1.length+ws.length/\(ws.foldl (stepR fr seen l x) S).2.length<=S.2.length+ws.length
 | [],S=>by simp
 |w::ws,S=>by
  have h1:=Zhm x ws (stepR fr seen l x S w);have h2:=Zor (fr:=fr) (seen:=seen) (l:=l) (S:=S) x w;rw[foldl_cons,length_cons];omega
theorem Zsk(k:Nat):(stpG s fr seen l S k).1.length<=S.1.length+k/\(stpG s fr seen l S k).2.length<=S.2.length+k:=by
 have h:=Zhm (fr:=fr) (seen:=seen) (l:=l) (lstO [] l) ((srtN s (lstO [] l)).take k) S;have h2:=List.length_take_le k (srtN s (lstO [] l));unfold stpG;omega
theorem ZqX(hs:s<=12){x:List Int}(hx:Vs n s x):∀(ws:List (List Int))(S:List (List (List Int))×List (List Int)),(∀w,w∈ws->w∈srtN s x)->(∀w,w∈S.2->Vs n s w)->∀w,w∈(ws.foldl (stepR fr seen l x) S).2->Vs n s w
 | [],S,_,h2=>h2
 |y::ws,S,h1,h2=>by
  rw[foldl_cons];refine ZqX hs hx ws _ (fun w hw=>h1 w (mem_cons_of_mem _ hw)) fun w hw=>?_;unfold stepR at hw;split at hw
  .exact h2 w hw
  .rcases List.mem_append.1 hw with hw|hw
   .exact h2 w hw
   .rw[List.mem_singleton.1 hw];exact ZuL hs hx (h1 y (by simp))
structure LL(n:Nat)(s:Int)(fr:List Int->List Int->Bool)(u v:List Int)(k:Nat)(lists:List (List (List Int)))(seen:List (List Int))(r:Option (List (List Int))):Prop where
 fl:FL (Egd (nbS s) fr) ltP (Vs n s) u k lists seen
 ends:RWay (srtN s) fr [] v lists seen r
variable{r:Option (List (List Int))}{k:Nat}
theorem LL.seenV(h:LL n s fr u v k lists seen r):∀x,x∈seen->Vs n s x:=fun x hx=>by obtain⟨_,_,_,hv⟩:=(h.fl.sn x).1 hx;exact hv
theorem LL.seenL(hs:0<=s/\s<=4)(hn:n<=3)(h:LL n s fr u v k lists seen r):seen.length<=125:=Zbb hs hn seen h.fl.nd h.seenV
theorem LL.listsL(hs:0<=s/\s<=4)(hn:n<=3)(h:LL n s fr u v k lists seen r):lists.length<=125:=Nat.le_trans h.fl.le (h.seenL hs hn)
structure LOne(n:Nat)(s:Int)(l:List (List Int)):Prop where
 len:l.length<=126
 pos:0<l.length
 spots:∀x,x∈l->Vs n s x
 at':l[l.length-1]? =some (lstO [] l)
 last:Vs n s (lstO [] l)
theorem wayV(hs:s<=12){d:Nat}{x y:List Int}{l:List (List Int)}(h:Way (Egd (nbS s) fr) d x y l):Vs n s x->∀z,z∈l->Vs n s z:=by
 induction h with
 |nil x=>intro hx z hz;obtain rfl:=List.mem_singleton.1 hz;exact hx
 |cons e _ ih=>
  intro hx z hz;rcases List.mem_cons.1 hz with rfl|hz
  .exact hx
  .exact ih (Za4 hs _ _ hx e.1).1 z hz
theorem LL.one(hs:0<=s/\s<=4)(hn:n<=3)(hu:Vs n s u)(h:LL n s fr u v k lists seen r){i:Nat}(hi:lists[i]? =some l):LOne n s l:=by
 obtain⟨x,h1,h2,h3⟩:=h.fl.way l (mG hi);have h4:=h1.len;have h5:=h.seenL hs hn;have hk:k<seen.length:=by
  rcases h.fl.cnt with h6|h6
  .rw[h6]at hi;simp at hi
  .exact h6
 have hV:=wayV ω h1 hu;have hat:l[l.length-1]? =some (lstO [] l):=by
  have h7:=h1.last;unfold lstO;rw[h7];rw[List.getLast?_eq_getElem?]at h7;exact h7
 exact⟨ω,ω,hV,hat,hV _ (mG hat)⟩
theorem LL.freshV(hs:0<=s/\s<=4)(hn:n<=3)(hu:Vs n s u)(h:LL n s fr u v k lists seen r):∀i,i<=lists.length->(∀w,w∈(rowsG s fr seen lists i).2->Vs n s w)/\(rowsG s fr seen lists i).1.length<=6*i/\(rowsG s fr seen lists i).2.length<=6*i
 |0,_=>by rw[ZgM];simp
 |i+1,hi=>by
  obtain⟨l,hl⟩:∃l,lists[i]? =some l:=⟨_,gE ω⟩;obtain⟨h1,h2,h3⟩:=LL.freshV hs hn hu h i ω;have ho:=h.one hs hn hu hl;have h4:=Zhm (fr:=fr) (seen:=seen) (l:=l) (lstO [] l) (srtN s (lstO [] l)) (rowsG s fr seen lists i);have h5:=Zgy s (lstO [] l);have h6:=ho.last.1;rw[ZfQ hl];unfold rowG;exact⟨ZqX ω ho.last _ _ (fun w hw=>hw) h1,ω,ω⟩
structure InG(n:Nat)(s:Int)(seen:List (List Int))(S:List (List (List Int))×List (List Int)):Prop where
 next:S.1.length<=1000
 fresh:S.2.length<=1000
 spots:∀w,w∈S.2->Vs n s w
theorem LL.inG(hs:0<=s/\s<=4)(hn:n<=3)(hu:Vs n s u)(h:LL n s fr u v k lists seen r){i:Nat}(hi:lists[i]? =some l){j:Nat}(hj:j<=(srtN s (lstO [] l)).length):InG n s seen (stpG s fr seen l (rowsG s fr seen lists i) j):=by
 have hlt:=(gS hi).1;obtain⟨h1,h2,h3⟩:=h.freshV hs hn hu i ω;have ho:=h.one hs hn hu hi;have h4:=Zsk (s:=s) (fr:=fr) (seen:=seen) (l:=l) (S:=rowsG s fr seen lists i) j;have h5:=Zgy s (lstO [] l);have h6:=ho.last.1;have h7:=h.listsL hs hn;refine⟨ω,ω,?_⟩;unfold stpG;exact ZqX ω ho.last _ _ (fun w hw=>mem_of_mem_take hw) h1
theorem ll_0(hu:Vs n s u)(h:RWay (srtN s) fr [] v [[u]] [u] r):LL n s fr u v 0 [[u]] [u] r:=⟨fl_0 hu,h⟩
theorem LL.next(hs:s<=12)(hu:Vs n s u)(h:LL n s fr u v k lists seen r)(hne:lists≠ [])(hno:∀(j:Nat)(m:List (List Int)),j<lists.length->lists[j]? =some m->lstO [] m≠v):
  LL n s fr u v (k+1) (rowsG s fr seen lists lists.length).1 (seen++(rowsG s fr seen lists lists.length).2) r:=by
 have hno':∀m,m∈lists->lstO [] m≠v:=fun m hm=>by
  obtain⟨j,hj,e⟩:=getElem_of_mem hm;exact hno j m hj (by rw[<-e];exact gE hj)
 rw[Zo0 (Nat.le_refl _)];refine⟨h.fl.next ZcA Zcb hsN hpN (hVN hs) hu,?_⟩
 cases h.ends with
 |nil=>exact absurd rfl hne
 |hit pre l post _ _ hl=>exact absurd hl (hno' l (by simp))
 |step _ _ _ _ _ h=>exact h
theorem LL.mu(hs:0<=s/\s<=4)(hn:n<=3)(hu:Vs n s u)(h:LL n s fr u v k lists seen r)(hne:lists≠ [])(hno:∀(j:Nat)(m:List (List Int)),j<lists.length->lists[j]? =some m->lstO [] m≠v):
  2*(126-(seen++(rowsG s fr seen lists lists.length).2).length)+(if (rowsG s fr seen lists lists.length).1= [] then 0 else 1)<2*(126-seen.length)+(if lists= [] then 0 else 1):=by
 have h1:=h.next ω hu hne hno;have h2:=h1.seenL hs hn;have h3:(rowsG s fr seen lists lists.length).2.length=(rowsG s fr seen lists lists.length).1.length:=by
  have key:∀(ls:List (List (List Int)))(S:List (List (List Int))×List (List Int)),S.2.length=S.1.length->(ls.foldl (rowG (srtN s) fr [] seen) S).2.length=(ls.foldl (rowG (srtN s) fr [] seen) S).1.length:=by
   have k2:∀(l:List (List Int))(x:List Int)(ws:List (List Int))(S:List (List (List Int))×List (List Int)),S.2.length=S.1.length->(ws.foldl (stepR fr seen l x) S).2.length=(ws.foldl (stepR fr seen l x) S).1.length:=by
    intro l x ws
    induction ws with
    |nil=>intro S h;exact h
    |cons w ws ih=>
     intro S h;rw[foldl_cons];refine ih _ ?_;unfold stepR;split
     .exact h
     .simp[h]
   intro ls
   induction ls with
   |nil=>intro S h;exact h
   |cons l ls ih=>intro S h;rw[foldl_cons];exact ih _ (k2 _ _ _ _ h)
  unfold rowsG;exact key _ _ rfl
 rw[if_neg hne];rw[List.length_append]at h2⊢;split
 .omega
 .rename_i e;have:=List.length_pos_iff.2 e;omega
theorem LL.none(h:LL n s fr u v k [] seen r):r=none:=by
 have h:=h.ends;generalize e:([]:List (List (List Int)))=ls at h
 cases h with
 |nil=>rfl
 |hit pre l post _ _ _=>simp at e
 |step _ _ _ hne=>exact absurd e.symm hne
theorem LL.hit(h:LL n s fr u v k lists seen r){i:Nat}(hi:lists[i]? =some l)(hl:lstO [] l=v)(hp:∀(j:Nat)(m:List (List Int)),j<i->lists[j]? =some m->lstO [] m≠v):r=some l:=by
 have hlt:=(gS hi).1
 cases h.ends with
 |nil=>simp at hlt
 |step _ _ _ _ hno=>exact absurd hl (hno l (mG hi))
 |hit pre c post _ hpre hc=>
  rcases Nat.lt_trichotomy i pre.length with h1|h1|h1
  .exact absurd hl (hpre l (by rw[List.getElem?_append_left h1]at hi;exact mG hi))
  .subst h1;rw[getElem?_append_right (Nat.le_refl _),Nat.sub_self]at hi;exact hi
  .exact absurd hc (hp pre.length c h1 (by rw[getElem?_append_right (Nat.le_refl _),Nat.sub_self];rfl))
open Classical in
noncomputable def rwF(s:Int)(fr:List Int->List Int->Bool)(u v:List Int):Option (List (List Int)):=if h:∃r,RWay (srtN s) fr [] v [[u]] [u] r then Classical.choose h else none
theorem ZuV(hs:0<=s/\s<=4)(hn:n<=3)(hu:Vs n s u):RWay (srtN s) fr [] v [[u]] [u] (rwF s fr u v):=by
 have h:∃r,RWay (srtN s) fr [] v [[u]] [u] r:=ZoT (E:=Egd (nbS s) fr) (lt:=ltP) (V:=Vs n s) ZcA Zcb hsN hpN (hVN ω) hu (M:=125) (fun l hd hv=>Zbb hs hn l hd hv) _ 0 _ _ (fl_0 hu) (Nat.le_refl _);unfold rwF;rw[dif_pos h];exact Classical.choose_spec h
theorem Zk0(hs:0<=s/\s<=4)(hn:n<=3)(hu:Vs n s u):(∃D l,rwF s fr u v=some l/\Dst (Egd (nbS s) fr) u v D/\Way (Egd (nbS s) fr) D u v l/\∀q,Way (Egd (nbS s) fr) D u v q->pl ltP l q)\/(rwF s fr u v=none/\∀D,¬Dst (Egd (nbS s) fr) u v D):=
 ZoS (V:=Vs n s) ZcA Zcb hsN hpN (hVN ω) hu (ZuV hs hn hu) 0 (fl_0 hu) fun e he=>ω
end
theorem ZvV(s:Int)(x:List Int):srtL (besU s x (2*x.length))=srtN s x:=rfl
theorem Ztn(S:List (List (List Int)))(l:List (List Int))(w:List Int):List.map lsD (S++[l++[w]])=List.map lsD S++[[D.list (List.map ilD l++[[D.list (w.map intD)]])]]:=by simp[lsD,ilD]
theorem Zt2(S:List (List Int))(w:List Int):List.map ilD (S++[w])=List.map ilD S++[[D.list (w.map intD)]]:=by simp[ilD]
attribute [irreducible] rowsG stpG srtN
