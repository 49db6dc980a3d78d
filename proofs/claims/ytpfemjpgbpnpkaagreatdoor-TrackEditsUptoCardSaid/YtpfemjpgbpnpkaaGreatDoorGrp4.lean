/- Joined by wip/bundle.py: XTik0 XTik1 XTikA. -/
import Derived.Test.YtpfemjpgbpnpkaaGreatDoorGrpR
import Derived.Test.YtpfemjpgbpnpkaaGreatDoorGrpL
import Derived.Test.YtpfemjpgbpnpkaaGreatDoorGrp3
namespace Go.Proofs.YtpfemjpgbpnpkaaGreatDoor.eng
open Go.RowKit num mem seg q held ratA ratB ratC ratD ratE vars ratF trq
def clI (q:Rat):Int:=-(-q).floor
def clQ (q:Rat):Int:=if ((2000:Int):Rat)< q then 2001 else clI q
def tkN (f:Nat→Rat):Nat→Int
 |0=>1
 |i+1=>max (tkN f i) (clQ (f i))
end Go.Proofs.YtpfemjpgbpnpkaaGreatDoor.eng
namespace Go.Proofs.YtpfemjpgbpnpkaaGreatDoor.eng
open Go.RowKit num mem seg q held ratA ratB ratC ratD ratE vars ratF trq natC
def spdAt (A:ArmV) (i:Nat):Rat:=((A.links[i]?).getD ⟨z0,z0,z0,z0,z0, []⟩).speed.q
def tkQ (A:ArmV) (l m:List RV) (i:Nat):Rat:=absV (qAt m i - qAt l i) / spdAt A i
def tkA (A:ArmV) (l m:List RV):Int:=tkN (tkQ A l m) A.links.length
section
variable {A : ArmV} {l m : List RV}
end
def tkS (A:ArmV) (P:List (List RV)) (s:Int):Nat→Int
 |0=>s
 |i+1=>tkS A P s i+tkA A (wAt P i) (wAt P (i+1))
noncomputable def plnS (A:ArmV) (P:List (List RV)) (s:Int) (i:Nat):Int:=if fitsE A (wAt P i)=0 then (if tkS A P s i≤2000 then 0 else 19) else fitsE A (wAt P i)
noncomputable def plnBase (A:ArmV) (P:List (List RV)) (s:Int):Int:=
 if armE A=0 then (if P.length=0 then 14 else if 60< P.length then 2 else if s< 0∨2000< s then 1 else 0) else armE A
noncomputable def plnE (A:ArmV) (P:List (List RV)) (s:Int):Int:=if plnBase A P s=0 then firstE (plnS A P s) P.length else plnBase A P s
def plnG (tk:Nat→Int) (P:List (List RV)) (n:Nat):List (Int×List Rat):=(List.range n).map fun i=>(tk i,gdL (wAt P i))
def plnL (A:ArmV) (P:List (List RV)) (s:Int) (n:Nat):List (Int×List Rat):=plnG (tkS A P s) P n
noncomputable def plnV (A:ArmV) (P:List (List RV)) (s:Int):List (Int×List Rat):=if plnE A P s=0 then plnL A P s P.length else []
section
variable {A : ArmV} {P : List (List RV)} {s : Int} {i : Nat}
theorem plnV_no (h:¬ plnE A P s=0):plnV A P s= []:=if_neg h
theorem plnV_ok (h:plnE A P s=0):plnV A P s=plnL A P s P.length:=if_pos h
end
section
variable {A : ArmV} {P : List (List RV)} {s : Int} {k : Nat}
end
def keyC (k:Int×List Rat):List D:= [.v (.int .i64 k.1),.list (k.2.map rdc)]
end Go.Proofs.YtpfemjpgbpnpkaaGreatDoor.eng
namespace Go.Proofs.YtpfemjpgbpnpkaaGreatDoor.eng
open Go.RowKit num mem seg q held ratA ratB ratC ratD ratE vars ratF trq
section
variable {K : AV → Prop}
end
end Go.Proofs.YtpfemjpgbpnpkaaGreatDoor.eng
