/- Joined by wip/bundle.py: XNum XBits XMem. -/
import Derived.WalkKit
import Derived.Lib.Hide
import Derived.Laws.BitsAllLaws
import Derived.Laws.BytesArg
namespace Go.Proofs.YtjlhknppkodilaaGreatDoor.num
def nvl (l:List UInt8):Nat:=l.foldl (fun a c=>a*256+c.toNat) 0
def nv (s:ByteArray):Nat:=nvl s.data.toList
def digs (n:Nat):List UInt8:=if n=0 then [] else digs (n / 256)++ [UInt8.ofNat (n % 256)]
def enc (n:Nat):ByteArray:=⟨(digs n).toArray⟩
def strip (l:List UInt8):List UInt8:=l.dropWhile (fun c=>c==0)
theorem ZlB (l:List UInt8):∀ a,l.foldl (fun a c=>a*256+c.toNat) a=a*256 ^ l.length+nvl l:=by
 induction l with
 |nil=>intro a;simp [nvl]
 |cons c l ih=>
  intro a
  have h1:=ih (a*256+c.toNat)
  have h2:=ih (0*256+c.toNat)
  simp only [nvl,List.foldl_cons] at h2 ⊢
  rw [h1,h2,List.length_cons,Nat.pow_succ]
  simp only [Nat.add_mul,Nat.zero_mul,Nat.zero_add,Nat.mul_assoc,Nat.mul_comm 256,nvl]
  omega
theorem ZkQ:nvl []=0:=rfl
theorem ZbG (c:UInt8) (l:List UInt8):nvl (c :: l)=c.toNat*256 ^ l.length+nvl l:=by
 have:=ZlB l c.toNat
 simpa [nvl] using this
theorem Zcr (a:List UInt8) (c:UInt8):nvl (a++ [c])=nvl a*256+c.toNat:=by
 simp [nvl]
theorem Zbe (l:List UInt8):nvl (0 :: l)=nvl l:=by simp [ZbG]
theorem Zem (l:List UInt8):nvl l< 256 ^ l.length:=by
 induction l with
 |nil=>simp [nvl]
 |cons c l ih=>
  rw [ZbG,List.length_cons,Nat.pow_succ]
  have hc:c.toNat≤255:=by have:=c.toNat_lt;omega
  have:c.toNat*256 ^ l.length≤255*256 ^ l.length:=Nat.mul_le_mul_right _ hc
  omega
theorem ZZ:digs 0= []:=by rw [digs];simp
theorem ZcC {n:Nat} (h:n≠0):digs n=digs (n / 256)++ [UInt8.ofNat (n % 256)]:=by
 rw [digs,if_neg h]
theorem Zbr (n:Nat):(UInt8.ofNat (n % 256)).toNat=n % 256:=by simp
theorem Zdh (n:Nat):nvl (digs n)=n:=by
 induction n using Nat.strongRecOn with
 |ind n ih=>
  by_cases h:n=0
  ·subst h;rw [ZZ];rfl
  ·rw [ZcC h,Zcr,ih (n / 256) (by omega),Zbr];omega
theorem Zi (n:Nat):nv (enc n)=n:=Zdh n
theorem ZdR {a b:Nat} (h:enc a=enc b):a=b:=by
 have:=congrArg nv h;simpa [Zi] using this
theorem Zjo {a b:Nat}:enc a=enc b↔a=b:=⟨ZdR,fun h=>by rw [h]⟩
theorem Zce {n:Nat}:digs n= []↔n=0:=by
 constructor
 ·intro h;have:=Zdh n;rw [h] at this;exact this.symm
 ·intro h;subst h;exact ZZ
theorem Zeb (l:List UInt8):strip (0 :: l)=strip l:=by simp [strip]
theorem ZhP {c:UInt8} (h:c≠0) (l:List UInt8):strip (c :: l)=c :: l:=by
 simp [strip,h]
theorem ZkO (l:List UInt8):nvl (strip l)=nvl l:=by
 induction l with
 |nil=>rfl
 |cons c l ih=>
  by_cases h:c=0
  ·subst h;rw [Zeb,ih,Zbe]
  ·rw [ZhP h]
theorem ZbU:∀ (n:Nat) (l:List UInt8),l.length=n→(∀ c r,l=c :: r→c≠0)→digs (nvl l)=l:=by
 intro n
 induction n with
 |zero=>intro l hl _;rw [List.length_eq_zero_iff.1 hl,ZkQ,ZZ]
 |succ n ih=>
  intro l hl hnz
  obtain⟨a,c,rfl⟩:∃ a c,l=a++ [c]:=⟨l.dropLast,l.getLast (by intro h;subst h;simp at hl),by rw [List.dropLast_concat_getLast]⟩
  have hal:a.length=n:=by simpa using hl
  have haz:∀ x r,a=x :: r→x≠0:=fun x r h=>hnz x (r++ [c]) (by rw [h];rfl)
  have hpos:nvl (a++ [c])≠0:=by
   cases a with
   |nil=>
    have:=hnz c [] rfl
    intro h
    rw [Zcr,ZkQ] at h
    exact this (UInt8.toNat_inj.1 (by simp only [UInt8.toNat_zero];omega))
   |cons x r=>
    have hx:=haz x r rfl
    have hx':0< x.toNat:=Nat.pos_of_ne_zero fun h=>hx (UInt8.toNat_inj.1 (by simpa using h))
    have hp:0< 256 ^ (r++ [c]).length:=Nat.pow_pos (by omega)
    rw [List.cons_append,ZbG]
    have:=Nat.mul_pos hx' hp
    omega
  rw [ZcC hpos,Zcr]
  have hc:=c.toNat_lt
  have e1:(nvl a*256+c.toNat) / 256=nvl a:=by omega
  have e2:(nvl a*256+c.toNat) % 256=c.toNat:=by omega
  rw [e1,e2,ih a hal haz]
  simp
theorem Zec (l:List UInt8):∀ c r,strip l=c :: r→c≠0:=by
 induction l with
 |nil=>intro c r h;cases h
 |cons x l ih=>
  intro c r h
  by_cases hx:x=0
  ·subst hx;rw [Zeb] at h;exact ih c r h
  ·rw [ZhP hx] at h;injection h with h1 _;rw [← h1];exact hx
theorem Zmp (l:List UInt8):strip l=digs (nvl l):=by
 rw [← ZkO,ZbU _ _ rfl (Zec l)]
theorem ZlN (n:Nat):∀ c r,digs n=c :: r→c≠0:=by
 have h:=Zmp (digs n)
 rw [Zdh] at h
 rw [← h];exact Zec _
theorem ZbV {n k : Nat} : (digs n).length ≤ k ↔ n < 256 ^ k := by
  constructor
  · intro h
    have h1 := Zem (digs n)
    rw [Zdh] at h1
    exact Nat.lt_of_lt_of_le h1 (Nat.pow_le_pow_right (by omega) h)
  · induction k generalizing n with
    | zero => intro h; have : n = 0 := by simpa using h
              subst this; simp [ZZ]
    | succ k ih =>
      intro h
      by_cases h0 : n = 0
      · subst h0; simp [ZZ]
      · rw [ZcC h0]
        have := ih (n := n / 256) (by rw [Nat.pow_succ] at h; omega)
        simpa using this
theorem ZaY (n:Nat):(enc n).data.toList=digs n:=by simp [enc]
theorem Zip (n:Nat):(enc n).size=(digs n).length:=by simp [enc,ByteArray.size]
theorem Zl {n k:Nat}:(enc n).size≤k↔n< 256 ^ k:=by rw [Zip,ZbV]
theorem ZL (s:ByteArray):(enc (nv s)).size≤s.size:=by
 rw [Zl];have:=Zem s.data.toList;rw [Array.length_toList] at this;exact this
theorem Zph (s:ByteArray):nv s< 256 ^ s.size:=by
 have:=Zem s.data.toList;rw [Array.length_toList] at this;exact this
theorem ZaX {a b:Nat} (h:a≤b):(enc a).size≤(enc b).size:=by
 rw [Zl]
 have h2:=(@Zl b (enc b).size).1 (Nat.le_refl _)
 omega
theorem ZbW {a b:ByteArray} (h:a.data.toList=b.data.toList):a=b:=by
 cases a;cases b;simp at h;simp [h]
theorem ZX:enc 0=⟨#[]⟩:=by apply ZbW;simp [enc,ZZ]
theorem Zgm {n:Nat}:(enc n).data.toList= []↔n=0:=by rw [ZaY,Zce]
theorem ZbB {s:ByteArray} (h:∀ c r,s.data.toList=c :: r→c≠0):enc (nv s)=s:=by
 apply ZbW;rw [ZaY];exact ZbU _ _ rfl h
end Go.Proofs.YtjlhknppkodilaaGreatDoor.num
namespace Go.Proofs.YtjlhknppkodilaaGreatDoor.num
open Go.RowKit
def strSize:Value→Nat| .string t=>t.size|_=>0
theorem ba_length (t:ByteArray):t.data.toList.length=t.size:=by rw [Array.length_toList];rfl
theorem ZcT (t:ByteArray) (h:0< t.size):t.data.toList=t[0] :: (t.extract 1 t.size).data.toList:=by
 have e:(t.extract 1 t.size).data.toList=t.data.toList.drop 1:=by
  rw [ByteArray.data_extract,Array.toList_extract,List.extract_eq_take_drop,List.take_of_length_le (by simp)]
 rw [e]
 have hl:0< t.data.toList.length:=by rw [ba_length];exact h
 rw [show t[0]=t.data.toList[0] from rfl]
 exact(List.getElem_cons_drop hl).symm
theorem Zpi (t:ByteArray) (h:0< t.size) (h0:(((t[0]).toNat:Int)==0)=true):nv (t.extract 1 t.size)=nv t:=by
 have hz:t[0]=0:=by
  have:(t[0]).toNat=0:=by simpa using h0
  exact UInt8.toNat_inj.1 (by simpa using this)
 unfold nv
 rw [ZcT t h,hz,Zbe]
theorem Ze8 (t:ByteArray) (h:0< t.size) (h0:(((t[0]).toNat:Int)==0)=false):enc (nv t)=t:=by
 apply ZbB
 intro c r e
 rw [ZcT t h] at e
 injection e with e _
 intro hc
 rw [← e] at hc
 rw [hc] at h0
 simp at h0
theorem ZmQ (t:ByteArray) (h:¬ 0< t.size):enc (nv t)=t:=by
 apply ZbB
 intro c r e
 have:=ba_length t
 rw [e] at this
 simp at this
 omega
theorem ZfY (s:ByteArray) (k:Nat) (h:k< s.size):nvl (s.data.toList.take (k+1))=nvl (s.data.toList.take k)*256+(s[k]).toNat:=by
 rw [List.take_succ_eq_append_getElem (by simpa using h),Zcr];rfl
theorem Zg9 (s:ByteArray) (k:Nat) (h:s.size≤k):nvl (s.data.toList.take k)=nv s:=by
 rw [List.take_of_length_le (by rw [ba_length];exact h)];rfl
theorem Zbd (i a b:Nat) (hb:b< 2 ^ i):a*2 ^ i|||b=a*2 ^ i+b:=by
 have:=Nat.two_pow_add_eq_or_of_lt hb a
 rw [Nat.mul_comm];omega
theorem ZaQ (i a b:Nat) (hb:b< 2 ^ i) (h:a*2 ^ i+b< 18446744073709551616):bits .or .u64 ((a*2 ^ i:Nat):Int) (b:Int)=((a*2 ^ i+b:Nat):Int):=by
 rw [u64_or_nat _ _ (by omega) (by omega),Zbd i a b hb]
theorem Zfw (i a b:Nat) (hb:b< 2 ^ i) (h:a*2 ^ i+b< 4294967296):bits .or .u32 ((a*2 ^ i:Nat):Int) (b:Int)=((a*2 ^ i+b:Nat):Int):=by
 rw [u32_or_nat _ _ (by omega) (by omega),Zbd i a b hb]
theorem Zc2 (s:ByteArray) (k:Nat) (h:k≤7):nvl (s.data.toList.take k)≤72057594037927935:=by
 have h1:=Zem (s.data.toList.take k)
 have h2:256 ^ (s.data.toList.take k).length≤256 ^ 7:=Nat.pow_le_pow_right (by omega) (by simp;omega)
 have h3:(256 ^ 7:Nat)=72057594037927936:=by decide
 omega
theorem Z1 {a b:ByteArray} (h:a=b):Ending.returned (.string a)= .returned (.string b):=by rw [h]
theorem Zap {k:IntKind} {a b:Int} (h:a=b):Ending.returned (.int k a)= .returned (.int k b):=by rw [h]
theorem Z8 {a b:Bool} (h:a=b):Ending.returned (.bool a)= .returned (.bool b):=by rw [h]
end Go.Proofs.YtjlhknppkodilaaGreatDoor.num
namespace Go.Proofs.YtjlhknppkodilaaGreatDoor.mem
open Go.RowKit
def Row (w:World) (b:Nat) (T:TypeId) (l:List Value):Prop:=w.heap[b]? =some (.cells l.toArray T (0,0))
def nums (k:IntKind) (l:List Nat):List Value:=l.map fun (n:Nat)=>Value.int k (n:Int)
theorem ZaL (k:IntKind) (l:List Nat):(nums k l).length=l.length:=by simp [nums]
theorem Zdi (k:IntKind) (l:List Nat) (i n:Nat):(nums k l).set i (.int k (n:Int))=nums k (l.set i n):=by simp [nums,List.map_set]
theorem Ze9 {k:IntKind} {l:List Nat} {i:Nat} (h:i< l.length):(nums k l)[i]? =some (.int k ((l.getD i 0:Nat):Int)):=by
 simp [nums,List.getElem?_eq_getElem h,List.getD]
section
variable {w w' : World} {b T : Nat} {l : List Value}
theorem Row.lt (h:Row w b T l):b< w.heap.size:=(Array.getElem?_eq_some_iff.1 h).1
theorem Row.cell? (h:Row w b T l) (i:Nat):w.cell? ⟨b,i,none⟩=l[i]? :=by
 unfold Row at h
 simp [World.cell?,h]
theorem Row.frozen (h:Row w b T l) (i:Nat):w.frozen? ⟨b,i,none⟩=false:=by
 unfold Row at h
 simp [World.frozen?,h]
theorem Row.set (h:Row w b T l) (i:Nat) (v:Value):Row (w.setCell ⟨b,i,none⟩ v) b T (l.set i v):=by
 unfold Row at h ⊢
 simp [World.setCell,Array.getElem?_modify,h]
theorem Row.set_ne (h:Row w b T l) {a:Addr} (ha:a.block≠b) (v:Value):Row (w.setCell a v) b T l:=by
 unfold Row at h ⊢
 rw [Below.heap_setCell _ _ _ _ (fun e=>ha e.symm)];exact h
theorem Row.drew (h:Row w b T l):Row w.drew b T l:=h
theorem Row.alloc (h:Row w b T l) (o:Obj):Row (w.alloc o) b T l:=by
 unfold Row at h ⊢
 rw [Below.heap_alloc _ _ _ (Row.lt h)];exact h
theorem Row.alloc_new (w:World) (T:TypeId) (l:List Value):Row (w.alloc (.cells l.toArray T)) w.heap.size T l:=by
 unfold Row
 show (w.heap.push _)[w.heap.size]? =_
 simp
theorem Row.below {B:Nat} (h:Row w b T l) (hb:Below B w w') (hB:b< B):Row w' b T l:=by
 unfold Row at h ⊢
 rw [hb.block b hB];exact h
theorem Row.grown {r:Option Nat} (h:Row w b T l) (hg:w.grownBy w' r) (hr:some b≠r):Row w' b T l:=by
 unfold Row at h ⊢
 rw [hg.block b (Row.lt h) hr];exact h
theorem Row.int {k:IntKind} {l:List Nat} (h:Row w b T (nums k l)) {i:Nat} (hi:i< l.length):w.cell? ⟨b,i,none⟩=some (.int k ((l.getD i 0:Nat):Int)):=by
 rw [h.cell?,Ze9 hi]
theorem Row.int_set {k:IntKind} {l:List Nat} (h:Row w b T (nums k l)) (i n:Nat):Row (w.setCell ⟨b,i,none⟩ (.int k (n:Int))) b T (nums k (l.set i n)):=by
 rw [← Zdi];exact h.set _ _
end
theorem Zs {P:Program} (w:World) {ops:Array Oper} {rest:List Oper} {o:Oper} {a:Act} {Q:Exit→Act→World→Prop}
  (hg:o.guard=none) (l c:Operand) (t:TypeId) (hop:o.op=Op.makeSlice t l c)
  (e:TypeId) (z:Value) (bytes:Nat) (h1:P.underlying t=some (.slice e)) (h2:(P.info? e).map (fun i=>(i.zero,i.size,i.bytes))=some (some z,1,bytes)) (hz:z.cells=#[z])
  (kl kc:IntKind) (L C:Int) (n:Nat) (hl:a.eval l= .int kl L) (hc:a.eval c= .int kc C) (hL:L=(n:Int)) (hC:C=(n:Int)) (b2:bytes*n≤281474976710656) (b3:n≤9223372036854775807)
  (hK:∀ w',Row w' w.heap.size e (List.replicate n z)→w.grownBy w' none→w'.heap.size=w.heap.size+1→wpList P ops Q rest (a.put o.dst (.slice (some ⟨w.heap.size,0,none⟩) n n)) w'):
  wpList P ops Q (o :: rest) a w:=by
 obtain⟨i,h2',h3,h4,h5⟩:=info_parts h2
 subst h5
 refine wpList_plain hg fun K hK'=> ?_
 have hb':(i.bytes:Int)*(n:Int)≤281474976710656:=by
  have h:((i.bytes*n:Nat):Int)≤281474976710656:=by omega
  rwa [Int.natCast_mul] at h
 have hrun:=run_make (P:=P) w t e i z h1 h2' h3 kl kc n n (by omega) (Int.le_refl _) hb' (by omega)
 simp only [Int.toNat_natCast,h4,Nat.mul_one,hz] at hrun
 subst hL
 subst hC
 unfold Oper.wp
 simp [execOp,hop,hl,hc,hrun,Result.andThen]
 refine hK' _ _ (hK _ ?_ (World.grownBy_alloc w _ none) (by simp))
 rw [← toList_madeCells_one]
 exact Row.alloc_new _ _ _
def Pre (w:World) (b T cap:Nat) (l:List Value):Prop:=∃ cur:Array Value,w.heap[b]? =some (.cells cur T (0,0))∧cur.size=cap∧l.length≤cap∧cur.toList.take l.length=l
section
variable {w w' : World} {b T cap : Nat} {l : List Value}
theorem Row.pre (h:Row w b T l):Pre w b T l.length l:=⟨l.toArray,h,by simp,Nat.le_refl _,by simp⟩
theorem Pre.lt (h:Pre w b T cap l):b< w.heap.size:=by obtain⟨cur,hc,_⟩:=h;exact(Array.getElem?_eq_some_iff.1 hc).1
theorem Pre.cell? (h:Pre w b T cap l) {i:Nat} (hi:i< l.length):w.cell? ⟨b,i,none⟩=l[i]? :=by
 obtain⟨cur,hc,_,hl,ht⟩:=h
 have e:w.cell? ⟨b,i,none⟩=cur[i]? :=by simp [World.cell?,hc]
 rw [e,← Array.getElem?_toList,← List.getElem?_take_of_lt hi,ht]
theorem Pre.frozen (h:Pre w b T cap l) (i:Nat):w.frozen? ⟨b,i,none⟩=false:=by
 obtain⟨cur,hc,_⟩:=h
 simp [World.frozen?,hc]
theorem Pre.set (h:Pre w b T cap l) (i:Nat) (v:Value):Pre (w.setCell ⟨b,i,none⟩ v) b T cap (l.set i v):=by
 obtain⟨cur,hc,hs,hl,ht⟩:=h
 refine⟨cur.setIfInBounds i v,?_,by simpa using hs,by simpa using hl,?_⟩
 ·simp [World.setCell,Array.getElem?_modify,hc]
 ·rw [List.length_set,Array.toList_setIfInBounds,List.take_set,ht]
theorem Pre.set_ne (h:Pre w b T cap l) {a:Addr} (ha:a.block≠b) (v:Value):Pre (w.setCell a v) b T cap l:=by
 obtain⟨cur,hc,r⟩:=h
 exact⟨cur,by rw [Below.heap_setCell _ _ _ _ (fun e=>ha e.symm)];exact hc,r⟩
theorem Pre.drew (h:Pre w b T cap l):Pre w.drew b T cap l:=h
theorem Pre.alloc (h:Pre w b T cap l) (o:Obj):Pre (w.alloc o) b T cap l:=by
 have hlt:=h.lt
 obtain⟨cur,hc,r⟩:=h
 exact⟨cur,by rw [Below.heap_alloc _ _ _ hlt];exact hc,r⟩
theorem Pre.below {B:Nat} (h:Pre w b T cap l) (hb:Below B w w') (hB:b< B):Pre w' b T cap l:=by
 obtain⟨cur,hc,r⟩:=h
 exact⟨cur,by rw [hb.block b hB];exact hc,r⟩
theorem Pre.grown {r:Option Nat} (h:Pre w b T cap l) (hg:w.grownBy w' r) (hr:some b≠r):Pre w' b T cap l:=by
 have hlt:=h.lt
 obtain⟨cur,hc,r'⟩:=h
 exact⟨cur,by rw [hg.block b hlt hr];exact hc,r'⟩
theorem Pre.int {k:IntKind} {l:List Nat} (h:Pre w b T cap (nums k l)) {i:Nat} (hi:i< l.length):w.cell? ⟨b,i,none⟩=some (.int k ((l.getD i 0:Nat):Int)):=by
 rw [h.cell? (by rw [ZaL];exact hi),Ze9 hi]
theorem Pre.int_set {k:IntKind} {l:List Nat} (h:Pre w b T cap (nums k l)) (i n:Nat):Pre (w.setCell ⟨b,i,none⟩ (.int k (n:Int))) b T cap (nums k (l.set i n)):=by
 rw [← Zdi];exact h.set _ _
end
theorem Pre.take {w:World} {b T cap:Nat} {l:List Value} (h:Pre w b T cap l) (n:Nat):Pre w b T cap (l.take n):=by
 obtain⟨cur,hc,hs,hl,ht⟩:=h
 refine⟨cur,hc,hs,by rw [List.length_take];omega,?_⟩
 rw [List.length_take,← List.take_take,ht]
theorem ZdE (k:IntKind) (l:List Nat) (n:Nat):(nums k l).take n=nums k (l.take n):=by simp [nums]
end Go.Proofs.YtjlhknppkodilaaGreatDoor.mem
