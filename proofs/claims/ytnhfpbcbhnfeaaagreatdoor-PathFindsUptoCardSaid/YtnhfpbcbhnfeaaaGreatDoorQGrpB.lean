/- Joined by wip/bundle.py: XNum XBits XMem. -/
import Derived.WalkKit
import Derived.Lib.Hide
import Derived.Laws.BitsAllLaws
import Derived.Laws.BytesArg
import Derived.Test.YtnhfpbcbhnfeaaaGreatDoorQTab
namespace Go.Proofs.YtnhfpbcbhnfeaaaGreatDoor
theorem ω{P:Prop}(h:P:=by omega):P:=h
theorem ωr{P:Prop}(h:P:=by kernel_rfl):P:=h
theorem ωd{P:Prop}(h:P:=by decide):P:=h
theorem ωk{P:Prop}(h:P:=by decide+kernel):P:=h
theorem ωm{P:Prop}(h:P:=by first|omega|exact Nat.mod_lt _ (by omega)):P:=h
theorem ωs{P:Prop}(h:P:=by assumption):P:=h
theorem ωi{P:Prop}(h:P:=by intro e;have:=sI e;omega):P:=h
end Go.Proofs.YtnhfpbcbhnfeaaaGreatDoor
namespace Go.Proofs.YtnhfpbcbhnfeaaaGreatDoor.num
def nvl(l:List UInt8):Nat:=l.foldl (fun a c=>a*256+c.toNat) 0
def nv(s:ByteArray):Nat:=nvl s.data.toList
def digs(n:Nat):List UInt8:=if n=0 then [] else digs (n/256)++[UInt8.ofNat (n%256)]
def enc(n:Nat):ByteArray:=⟨(digs n).toArray⟩
def strip(l:List UInt8):List UInt8:=l.dropWhile (fun c=>c==0)
theorem ZqV(l:List UInt8):∀a,l.foldl (fun a c=>a*256+c.toNat) a=a*256^l.length+nvl l:=by
 induction l with
 |nil=>intro a;simp[nvl]
 |cons c l ih=>
  intro a;have h1:=ih (a*256+c.toNat);have h2:=ih (0*256+c.toNat);simp only[nvl,List.foldl_cons]at h2⊢;rw[h1,h2,List.length_cons,Nat.pow_succ];simp only[Nat.add_mul,Nat.zero_mul,Nat.zero_add,Nat.mul_assoc,Nat.mul_comm 256,nvl];omega
theorem Zpx:nvl []=0:=rfl
theorem Zcq(c:UInt8)(l:List UInt8):nvl (c::l)=c.toNat*256^l.length+nvl l:=by
 have:=ZqV l c.toNat;simpa[nvl]using this
theorem Zc9(a:List UInt8)(c:UInt8):nvl (a++[c])=nvl a*256+c.toNat:=by
 simp[nvl]
theorem ZbN(l:List UInt8):nvl (0::l)=nvl l:=by simp[Zcq]
theorem ZfW(l:List UInt8):nvl l<256^l.length:=by
 induction l with
 |nil=>simp[nvl]
 |cons c l ih=>
  rw[Zcq,List.length_cons,Nat.pow_succ];have hc:c.toNat<=255:=by have:=c.toNat_lt;omega
  have:c.toNat*256^l.length<=255*256^l.length:=Nat.mul_le_mul_right _ hc;omega
theorem Z2:digs 0= []:=by rw[digs];simp
theorem Zdr{n:Nat}(h:n≠0):digs n=digs (n/256)++[UInt8.ofNat (n%256)]:=by
 rw[digs,if_neg h]
theorem Zb3(n:Nat):(UInt8.ofNat (n%256)).toNat=n%256:=by simp
theorem Zel(n:Nat):nvl (digs n)=n:=by
 induction n using Nat.strongRecOn with
 |ind n ih=>
  by_cases h:n=0
  .subst h;rw[Z2];rfl
  .rw[Zdr h,Zc9,ih (n/256) ω,Zb3];omega
theorem Ze(n:Nat):nv (enc n)=n:=Zel n
theorem Zfe{a b:Nat}(h:enc a=enc b):a=b:=by
 have:=congrArg nv h;simpa[Ze]using this
theorem Znl{a b:Nat}:enc a=enc b↔a=b:=⟨Zfe,fun h=>by rw[h]⟩
theorem ZcU{n:Nat}:digs n= []↔n=0:=by
 constructor
 .intro h;have:=Zel n;rw[h]at this;exact this.symm
 .intro h;subst h;exact Z2
theorem ZfF(l:List UInt8):strip (0::l)=strip l:=by simp[strip]
theorem ZkL{c:UInt8}(h:c≠0)(l:List UInt8):strip (c::l)=c::l:=by
 simp[strip,h]
theorem Zpv(l:List UInt8):nvl (strip l)=nvl l:=by
 induction l with
 |nil=>rfl
 |cons c l ih=>
  by_cases h:c=0
  .subst h;rw[ZfF,ih,ZbN]
  .rw[ZkL h]
theorem ZcC:∀(n:Nat)(l:List UInt8),l.length=n->(∀c r,l=c::r->c≠0)->digs (nvl l)=l:=by
 intro n
 induction n with
 |zero=>intro l hl _;rw[List.length_eq_zero_iff.1 hl,Zpx,Z2]
 |succ n ih=>
  intro l hl hnz;obtain⟨a,c,rfl⟩:∃a c,l=a++[c]:=⟨l.dropLast,l.getLast (by intro h;subst h;simp at hl),by rw[List.dropLast_concat_getLast]⟩;have hal:a.length=n:=by simpa using hl
  have haz:∀x r,a=x::r->x≠0:=fun x r h=>hnz x (r++[c]) (by rw[h];rfl);have hpos:nvl (a++[c])≠0:=by
   cases a with
   |nil=>
    have:=hnz c [] rfl;intro h;rw[Zc9,Zpx]at h;exact this (UInt8.toNat_inj.1 (by simp only[UInt8.toNat_zero];omega))
   |cons x r=>
    have hx:=haz x r rfl;have hx':0<x.toNat:=Nat.pos_of_ne_zero fun h=>hx (UInt8.toNat_inj.1 (by simpa using h));have hp:0<256^(r++[c]).length:=Nat.pow_pos ω;rw[List.cons_append,Zcq];have:=Nat.mul_pos hx' hp;omega
  rw[Zdr hpos,Zc9];have hc:=c.toNat_lt;have e1:(nvl a*256+c.toNat)/256=nvl a:=ω;have e2:(nvl a*256+c.toNat)%256=c.toNat:=ω;rw[e1,e2,ih a hal haz];simp
theorem ZfG(l:List UInt8):∀c r,strip l=c::r->c≠0:=by
 induction l with
 |nil=>intro c r h;cases h
 |cons x l ih=>
  intro c r h;by_cases hx:x=0
  .subst hx;rw[ZfF]at h;exact ih c r h
  .rw[ZkL hx]at h;injection h with h1 _;rw[<-h1];exact hx
theorem Zsh(l:List UInt8):strip l=digs (nvl l):=by
 rw[<-Zpv,ZcC _ _ rfl (ZfG l)]
theorem Zrj(n:Nat):∀c r,digs n=c::r->c≠0:=by
 have h:=Zsh (digs n);rw[Zel]at h;rw[<-h];exact ZfG _
theorem ZcD {n k : Nat} : (digs n).length <= k ↔ n < 256 ^ k := by
  constructor
  · intro h;have h1 := ZfW (digs n);rw [Zel] at h1;exact Nat.lt_of_lt_of_le h1 (Nat.pow_le_pow_right ω h)
  · induction k generalizing n with
    | zero => intro h; have : n = 0 := by simpa using h
              subst this; simp [Z2]
    | succ k ih =>
      intro h;by_cases h0 : n = 0
      · subst h0; simp [Z2]
      · rw [Zdr h0];have := ih (n := n / 256) (by rw [Nat.pow_succ] at h; omega);simpa using this
theorem Zbn(n:Nat):(enc n).data.toList=digs n:=by simp[enc]
theorem ZlT(n:Nat):(enc n).size=(digs n).length:=by simp[enc,ByteArray.size]
theorem Zh{n k:Nat}:(enc n).size<=k↔n<256^k:=by rw[ZlT,ZcD]
theorem ZN(s:ByteArray):(enc (nv s)).size<=s.size:=by
 rw[Zh];have:=ZfW s.data.toList;rw[Array.length_toList]at this;exact this
theorem Zym(s:ByteArray):nv s<256^s.size:=by
 have:=ZfW s.data.toList;rw[Array.length_toList]at this;exact this
theorem ZaJ{a b:Nat}(h:a<=b):(enc a).size<=(enc b).size:=by
 rw[Zh];have h2:=(@Zh b (enc b).size).1 (Nat.le_refl _);omega
theorem ZcE{a b:ByteArray}(h:a.data.toList=b.data.toList):a=b:=by
 cases a;cases b;simp at h;simp[h]
theorem ZV:enc 0=⟨#[]⟩:=by apply ZcE;simp[enc,Z2]
theorem ZiO{n:Nat}:(enc n).data.toList= []↔n=0:=by rw[Zbn,ZcU]
theorem Zcl{s:ByteArray}(h:∀c r,s.data.toList=c::r->c≠0):enc (nv s)=s:=by
 apply ZcE;rw[Zbn];exact ZcC _ _ rfl h
open Go.RowKit
def strSize:Value->Nat| .string t=>t.size|_=>0
theorem ba_length(t:ByteArray):t.data.toList.length=t.size:=by rw[Array.length_toList];rfl
theorem ZdR(t:ByteArray)(h:0<t.size):t.data.toList=t[0]::(t.extract 1 t.size).data.toList:=by
 have e:(t.extract 1 t.size).data.toList=t.data.toList.drop 1:=by
  rw[ByteArray.data_extract,Array.toList_extract,List.extract_eq_take_drop,List.take_of_length_le (by simp)]
 rw[e];have hl:0<t.data.toList.length:=by rw[ba_length];exact h
 rw[show t[0]=t.data.toList[0] from rfl];exact(List.getElem_cons_drop hl).symm
theorem Zyn(t:ByteArray)(h:0<t.size)(h0:(((t[0]).toNat:Int)==0)=true):nv (t.extract 1 t.size)=nv t:=by
 have hz:t[0]=0:=by
  have:(t[0]).toNat=0:=by simpa using h0
  exact UInt8.toNat_inj.1 (by simpa using this)
 unfold nv;rw[ZdR t h,hz,ZbN]
theorem Zg2(t:ByteArray)(h:0<t.size)(h0:(((t[0]).toNat:Int)==0)=false):enc (nv t)=t:=by
 apply Zcl;intro c r e;rw[ZdR t h]at e;injection e with e _;intro hc;rw[<-e]at hc;rw[hc]at h0;simp at h0
theorem Zs5(t:ByteArray)(h:¬0<t.size):enc (nv t)=t:=by
 apply Zcl;intro c r e;have:=ba_length t;rw[e]at this;simp at this;omega
theorem Zio(s:ByteArray)(k:Nat)(h:k<s.size):nvl (s.data.toList.take (k+1))=nvl (s.data.toList.take k)*256+(s[k]).toNat:=by
 rw[List.take_succ_eq_append_getElem (by simpa using h),Zc9];rfl
theorem ZjN(s:ByteArray)(k:Nat)(h:s.size<=k):nvl (s.data.toList.take k)=nv s:=by
 rw[List.take_of_length_le (by rw[ba_length];exact h)];rfl
theorem ZbM(i a b:Nat)(hb:b<2^i):a*2^i|||b=a*2^i+b:=by
 have:=Nat.two_pow_add_eq_or_of_lt hb a;rw[Nat.mul_comm];omega
theorem Zba(i a b:Nat)(hb:b<2^i)(h:a*2^i+b<18446744073709551616):bits .or .u64 ((a*2^i:Nat):Int) (b:Int)=((a*2^i+b:Nat):Int):=by
 rw[u64_or_nat _ _ ω ω,ZbM i a b hb]
theorem ZhJ(i a b:Nat)(hb:b<2^i)(h:a*2^i+b<4294967296):bits .or .u32 ((a*2^i:Nat):Int) (b:Int)=((a*2^i+b:Nat):Int):=by
 rw[u32_or_nat _ _ ω ω,ZbM i a b hb]
theorem Zd1(s:ByteArray)(k:Nat)(h:k<=7):nvl (s.data.toList.take k)<=72057594037927935:=by
 have h1:=ZfW (s.data.toList.take k);have h2:256^(s.data.toList.take k).length<=256^7:=Nat.pow_le_pow_right ω (by simp;omega);have h3:(256^7:Nat)=72057594037927936:=ωd;omega
theorem Z5{a b:ByteArray}(h:a=b):Ending.returned (.string a)= .returned (.string b):=by rw[h]
theorem ZaD{k:IntKind}{a b:Int}(h:a=b):Ending.returned (.int k a)= .returned (.int k b):=by rw[h]
theorem Zaf{a b:Bool}(h:a=b):Ending.returned (.bool a)= .returned (.bool b):=by rw[h]
end Go.Proofs.YtnhfpbcbhnfeaaaGreatDoor.num
namespace Go.Proofs.YtnhfpbcbhnfeaaaGreatDoor.mem
open Go.RowKit
def Row(w:World)(b:Nat)(T:TypeId)(l:List Value):Prop:=w.heap[b]? =some (.cells l.toArray T (0,0))
def nums(k:IntKind)(l:List Nat):List Value:=l.map fun (n:Nat)=>Value.int k (n:Int)
theorem Za3(k:IntKind)(l:List Nat):(nums k l).length=l.length:=by simp[nums]
theorem Zem(k:IntKind)(l:List Nat)(i n:Nat):(nums k l).set i (.int k (n:Int))=nums k (l.set i n):=by simp[nums,List.map_set]
theorem Zg3{k:IntKind}{l:List Nat}{i:Nat}(h:i<l.length):(nums k l)[i]? =some (.int k ((l.getD i 0:Nat):Int)):=by
 simp[nums,gE h,List.getD]
section
variable{w w':World}{b T:Nat}{l:List Value}
theorem Row.lt(h:Row w b T l):b<w.heap.size:=(Array.getElem?_eq_some_iff.1 h).1
theorem Row.cell?(h:Row w b T l)(i:Nat):w.cell? ⟨b,i,none⟩=l[i]? :=by
 unfold Row at h;simp[World.cell?,h]
theorem Row.frozen(h:Row w b T l)(i:Nat):w.frozen? ⟨b,i,none⟩=false:=by
 unfold Row at h;simp[World.frozen?,h]
theorem Row.set(h:Row w b T l)(i:Nat)(v:Value):Row (w.setCell ⟨b,i,none⟩ v) b T (l.set i v):=by
 unfold Row at h⊢;simp[World.setCell,Array.getElem?_modify,h]
theorem Row.set_ne(h:Row w b T l){a:Addr}(ha:a.block≠b)(v:Value):Row (w.setCell a v) b T l:=by
 unfold Row at h⊢;rw[Below.heap_setCell _ _ _ _ (fun e=>ha e.symm)];exact h
theorem Row.drew(h:Row w b T l):Row w.drew b T l:=h
theorem Row.alloc(h:Row w b T l)(o:Obj):Row (w.alloc o) b T l:=by
 unfold Row at h⊢;rw[Below.heap_alloc _ _ _ (Row.lt h)];exact h
theorem Row.alloc_new(w:World)(T:TypeId)(l:List Value):Row (w.alloc (.cells l.toArray T)) w.heap.size T l:=by
 unfold Row;show (w.heap.push _)[w.heap.size]? =_;simp
theorem Row.below{B:Nat}(h:Row w b T l)(hb:Below B w w')(hB:b<B):Row w' b T l:=by
 unfold Row at h⊢;rw[hb.block b hB];exact h
theorem Row.grown{r:Option Nat}(h:Row w b T l)(hg:w.grownBy w' r)(hr:some b≠r):Row w' b T l:=by
 unfold Row at h⊢;rw[hg.block b (Row.lt h) hr];exact h
theorem Row.int{k:IntKind}{l:List Nat}(h:Row w b T (nums k l)){i:Nat}(hi:i<l.length):w.cell? ⟨b,i,none⟩=some (.int k ((l.getD i 0:Nat):Int)):=by
 rw[h.cell?,Zg3 hi]
theorem Row.int_set{k:IntKind}{l:List Nat}(h:Row w b T (nums k l))(i n:Nat):Row (w.setCell ⟨b,i,none⟩ (.int k (n:Int))) b T (nums k (l.set i n)):=by
 rw[<-Zem];exact h.set _ _
end
theorem Zu{P:Program}(w:World){ops:Array Oper}{rest:List Oper}{o:Oper}{a:Act}{Q:Exit->Act->World->Prop}
 (hg:o.guard=none)(l c:Operand)(t:TypeId)(hop:o.op=Op.makeSlice t l c)
 (e:TypeId)(z:Value)(bytes:Nat)(h1:P.underlying t=some (.slice e))(h2:(P.info? e).map (fun i=>(i.zero,i.size,i.bytes))=some (some z,1,bytes))(hz:z.cells=#[z])
 (kl kc:IntKind)(L C:Int)(n:Nat)(hl:a.eval l= .int kl L)(hc:a.eval c= .int kc C)(hL:L=(n:Int))(hC:C=(n:Int))(b2:bytes*n<=281474976710656)(b3:n<=9223372036854775807)
 (hK:∀w',Row w' w.heap.size e (List.replicate n z)->w.grownBy w' none->w'.heap.size=w.heap.size+1->wpList P ops Q rest (a.put o.dst (.slice (some ⟨w.heap.size,0,none⟩) n n)) w'):
  wpList P ops Q (o::rest) a w:=by
 obtain⟨i,h2',h3,h4,h5⟩:=info_parts h2;subst h5;refine wpList_plain hg fun K hK'=>?_;have hb':(i.bytes:Int)*(n:Int)<=281474976710656:=by
  have h:((i.bytes*n:Nat):Int)<=281474976710656:=ω
  rwa[Int.natCast_mul]at h
 have hrun:=run_make (P:=P) w t e i z h1 h2' h3 kl kc n n ω (Int.le_refl _) hb' ω;simp only[Int.toNat_natCast,h4,Nat.mul_one,hz]at hrun;subst hL;subst hC;unfold Oper.wp;simp[execOp,hop,hl,hc,hrun,Result.andThen];refine hK' _ _ (hK _ ?_ (World.grownBy_alloc w _ none) (by simp));rw[<-toList_madeCells_one];exact Row.alloc_new _ _ _
def Pre(w:World)(b T cap:Nat)(l:List Value):Prop:=∃cur:Array Value,w.heap[b]? =some (.cells cur T (0,0))/\cur.size=cap/\l.length<=cap/\cur.toList.take l.length=l
section
variable{w w':World}{b T cap:Nat}{l:List Value}
theorem Row.pre(h:Row w b T l):Pre w b T l.length l:=⟨l.toArray,h,by simp,Nat.le_refl _,by simp⟩
theorem Pre.lt(h:Pre w b T cap l):b<w.heap.size:=by obtain⟨cur,hc,_⟩:=h;exact(Array.getElem?_eq_some_iff.1 hc).1
theorem Pre.le(h:Pre w b T cap l):l.length<=cap:=by obtain⟨cur,_,_,h,_⟩:=h;exact h
theorem Pre.cell?(h:Pre w b T cap l){i:Nat}(hi:i<l.length):w.cell? ⟨b,i,none⟩=l[i]? :=by
 obtain⟨cur,hc,_,hl,ht⟩:=h;have e:w.cell? ⟨b,i,none⟩=cur[i]? :=by simp[World.cell?,hc]
 rw[e,<-Array.getElem?_toList,<-List.getElem?_take_of_lt hi,ht]
theorem Pre.frozen(h:Pre w b T cap l)(i:Nat):w.frozen? ⟨b,i,none⟩=false:=by
 obtain⟨cur,hc,_⟩:=h;simp[World.frozen?,hc]
theorem Pre.set(h:Pre w b T cap l)(i:Nat)(v:Value):Pre (w.setCell ⟨b,i,none⟩ v) b T cap (l.set i v):=by
 obtain⟨cur,hc,hs,hl,ht⟩:=h;refine⟨cur.setIfInBounds i v,?_,by simpa using hs,by simpa using hl,?_⟩
 .simp[World.setCell,Array.getElem?_modify,hc]
 .rw[List.length_set,Array.toList_setIfInBounds,List.take_set,ht]
theorem Pre.set_ne(h:Pre w b T cap l){a:Addr}(ha:a.block≠b)(v:Value):Pre (w.setCell a v) b T cap l:=by
 obtain⟨cur,hc,r⟩:=h;exact⟨cur,by rw[Below.heap_setCell _ _ _ _ (fun e=>ha e.symm)];exact hc,r⟩
theorem Pre.drew(h:Pre w b T cap l):Pre w.drew b T cap l:=h
theorem Pre.alloc(h:Pre w b T cap l)(o:Obj):Pre (w.alloc o) b T cap l:=by
 have hlt:=h.lt;obtain⟨cur,hc,r⟩:=h;exact⟨cur,by rw[Below.heap_alloc _ _ _ hlt];exact hc,r⟩
theorem Pre.below{B:Nat}(h:Pre w b T cap l)(hb:Below B w w')(hB:b<B):Pre w' b T cap l:=by
 obtain⟨cur,hc,r⟩:=h;exact⟨cur,by rw[hb.block b hB];exact hc,r⟩
theorem Pre.grown{r:Option Nat}(h:Pre w b T cap l)(hg:w.grownBy w' r)(hr:some b≠r):Pre w' b T cap l:=by
 have hlt:=h.lt;obtain⟨cur,hc,r'⟩:=h;exact⟨cur,by rw[hg.block b hlt hr];exact hc,r'⟩
theorem Pre.int{k:IntKind}{l:List Nat}(h:Pre w b T cap (nums k l)){i:Nat}(hi:i<l.length):w.cell? ⟨b,i,none⟩=some (.int k ((l.getD i 0:Nat):Int)):=by
 rw[h.cell? (by rw[Za3];exact hi),Zg3 hi]
theorem Pre.int_set{k:IntKind}{l:List Nat}(h:Pre w b T cap (nums k l))(i n:Nat):Pre (w.setCell ⟨b,i,none⟩ (.int k (n:Int))) b T cap (nums k (l.set i n)):=by
 rw[<-Zem];exact h.set _ _
end
theorem Pre.take{w:World}{b T cap:Nat}{l:List Value}(h:Pre w b T cap l)(n:Nat):Pre w b T cap (l.take n):=by
 obtain⟨cur,hc,hs,hl,ht⟩:=h;refine⟨cur,hc,hs,by rw[List.length_take];omega,?_⟩;rw[List.length_take,<-List.take_take,ht]
theorem ZeM(k:IntKind)(l:List Nat)(n:Nat):(nums k l).take n=nums k (l.take n):=by simp[nums]
