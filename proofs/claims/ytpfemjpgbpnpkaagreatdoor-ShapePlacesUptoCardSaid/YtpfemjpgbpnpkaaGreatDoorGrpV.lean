/- Joined by wip/bundle.py: XSpr0 XShb0 XPla0. -/
import Derived.Test.YtpfemjpgbpnpkaaGreatDoorFore0
import Derived.Test.YtpfemjpgbpnpkaaGreatDoorGrpQ
import Derived.Test.YtpfemjpgbpnpkaaGreatDoorGrpA
import Derived.Test.YtpfemjpgbpnpkaaGreatDoorGrpX
namespace Go.Proofs.YtpfemjpgbpnpkaaGreatDoor.eng
open Go.RowKit num mem seg q held ratA ratB ratC ratD ratE vars ratF trq
structure LF where
 xl:Rat
 xh:Rat
 yl:Rat
 yh:Rat
 cl:Rat
 ch:Rat
 sl:Rat
 sh:Rat
def LF.has (f:LF) (g:RF):Prop:=(f.xl≤g.x∧g.x≤f.xh)∧(f.yl≤g.y∧g.y≤f.yh)∧(f.cl≤g.c∧g.c≤f.ch)∧(f.sl≤g.s∧g.s≤f.sh)
end Go.Proofs.YtpfemjpgbpnpkaaGreatDoor.eng
namespace Go.Proofs.YtpfemjpgbpnpkaaGreatDoor.eng
open Go.RowKit num mem seg q held ratA ratB ratC ratD ratE vars ratF trq
structure B4 where
 xl:Rat
 xh:Rat
 yl:Rat
 yh:Rat
def B4.z (b:B4) (B:Nat):Prop:=(qs b.xl≤B∧qs b.xh≤B)∧qs b.yl≤B∧qs b.yh≤B
theorem ZmQ {a b:Rat} {B:Nat} (h:qs a≤B) (g:qs b≤B):qs (minQ a b)≤B:=by unfold minQ;split<;>assumption
theorem ZmR {a b:Rat} {B:Nat} (h:qs a≤B) (g:qs b≤B):qs (maxQ a b)≤B:=by unfold maxQ;split<;>assumption
end Go.Proofs.YtpfemjpgbpnpkaaGreatDoor.eng
namespace Go.Proofs.YtpfemjpgbpnpkaaGreatDoor.eng
open Go.RowKit num mem seg q held ratA ratB ratC ratD ratE vars ratF trq
def ptB (p:Rat×Rat):B4:=⟨p.1,p.1,p.2,p.2⟩
def addB (b:B4) (p:Rat×Rat):B4:=⟨minQ b.xl p.1,maxQ b.xh p.1,minQ b.yl p.2,maxQ b.yh p.2⟩
def foldB (b:B4) (l:List (Rat×Rat)):B4:=l.foldl addB b
theorem Zin (b:B4) (l:List (Rat×Rat)) (p:Rat×Rat):foldB b (l++ [p])=addB (foldB b l) p:=by simp [foldB]
theorem Zim (b:B4) {l:List (Rat×Rat)} {i:Nat} {p:Rat×Rat} (h:l[i]? =some p):foldB b (l.take (i+1))=addB (foldB b (l.take i)) p:=by
 rw [List.take_add_one,h];exact Zin b _ p
theorem Zkl (b:B4) (l m:List (Rat×Rat)):foldB b (l++m)=foldB (foldB b l) m:=by simp [foldB]
theorem Zkk (b:B4) {L:List (List (Rat×Rat))} {i:Nat} {m:List (Rat×Rat)} (h:L[i]? =some m):foldB b (L.take (i+1)).flatten=foldB (foldB b (L.take i).flatten) m:=by
 rw [List.take_add_one,h,List.flatten_append,Zkl];simp
theorem Zgu {B:Nat}:∀ (l:List (Rat×Rat)) (b:B4),b.z B→(∀ p,p∈l→qs p.1≤B∧qs p.2≤B)→(foldB b l).z B
 | [],b,h,_=>h
 |p :: l,b,h,g=>by
  have hp:=g p (by simp)
  exact Zgu l (addB b p) ⟨⟨ZmQ h.1.1 hp.1,ZmR h.1.2 hp.1⟩,ZmQ h.2.1 hp.2,ZmR h.2.2 hp.2⟩ (fun q hq=>g q (List.mem_cons_of_mem _ hq))
theorem ZdT {a b:Rat} (m:Rat) (h:m=a):(if b< m then b else m)=minQ a b:=by
 subst h;unfold minQ;split<;>split<;>grind
theorem Zfd {a b:Rat} (m:Rat) (h:m=a):(if m< b then b else m)=maxQ a b:=by
 subst h;unfold maxQ;split<;>split<;>grind
end Go.Proofs.YtpfemjpgbpnpkaaGreatDoor.eng
