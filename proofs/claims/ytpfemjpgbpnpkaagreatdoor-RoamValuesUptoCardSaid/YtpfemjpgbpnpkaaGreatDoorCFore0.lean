/- Plain law: frames of an arm by cosines and sines; the sizes of their numbers. No program. -/
import Derived.Test.YtpfemjpgbpnpkaaGreatDoorCGrpX
import Derived.Test.YtpfemjpgbpnpkaaGreatDoorCGrpT
import Derived.Test.YtpfemjpgbpnpkaaGreatDoorCGrpM
import Derived.Test.YtpfemjpgbpnpkaaGreatDoorCEngH3b
namespace Go.Proofs.YtpfemjpgbpnpkaaGreatDoor.eng
open Go.RowKit num mem seg q held ratA ratB ratC ratD ratE vars ratF trq
structure RF where
 x:Rat
 y:Rat
 c:Rat
 s:Rat
def unitC (c s:Rat):Prop:=c*c+s*s=1
def RF.u (f:RF):Prop:=unitC f.c f.s
def qAt (Q:List RV) (i:Nat):Rat:=((Q[i]?).getD z0).q
def lenAt (A:ArmV) (i:Nat):Rat:=((A.links[i]?).getD ⟨z0,z0,z0,z0,z0, []⟩).len.q
theorem Ze7 {Q:List RV} {i:Nat} {x:RV} (h:Q[i]? =some x):qAt Q i=x.q:=by simp [qAt,h]
theorem Zhc {A:ArmV} {i:Nat} {l:LinkV} (h:A.links[i]? =some l):lenAt A i=l.len.q:=by simp [lenAt,h]
theorem ZmL {A:ArmV} (hA:armE A=0) (i:Nat):qs (lenAt A i)≤4:=by
 unfold lenAt
 cases h:A.links[i]? with
 |none=>show qs z0.q≤_;decide+kernel
 |some l=>
  have:=ZgW (ZR hA (List.mem_of_getElem? h)).1
  have:=l.len.qs_le
  show qs l.len.q≤_;omega
end Go.Proofs.YtpfemjpgbpnpkaaGreatDoor.eng
