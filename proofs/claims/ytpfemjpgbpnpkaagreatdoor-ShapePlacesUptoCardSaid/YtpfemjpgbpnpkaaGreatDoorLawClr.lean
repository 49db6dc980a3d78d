/- Contracts of gantlaw3.ClearWalls, ClearArms: they return true. Printed by wip/gp_lawclr.py. -/
import Derived.Test.YtpfemjpgbpnpkaaGreatDoorGrpU
import Derived.Test.YtpfemjpgbpnpkaaGreatDoorGrpX
import Derived.Test.YtpfemjpgbpnpkaaGreatDoorOpenA
namespace Go.Proofs.YtpfemjpgbpnpkaaGreatDoor.eng
open Go.RowKit num mem seg q held ratA ratB ratC ratD ratE vars ratF argopen trq
section
variable {K : AV → Prop}
def samQ (t:Rat):List (Rat×Rat):=let f:=turnF ⟨n0Q,n0Q,cosq false n0Q,sinq n0Q⟩ t; [putQ f n0Q m1Q,putQ f ((3:Nat):Rat) m1Q,putQ f ((3:Nat):Rat) n1Q,putQ f n0Q n1Q]
theorem Zul (n:Nat):plcL (sampA [3]) (natRV [n]) 1= [samQ (n:Rat)]:=by
 have hb:baseF (sampA [3])=⟨n0Q,n0Q,cosq false n0Q,sinq n0Q⟩:=by
  unfold baseF
  rw [show (sampA [3]).bx.q=n0Q from cn_q _,show (sampA [3]).by'.q=n0Q from cn_q _,show (sampA [3]).bt.q=n0Q from cn_q _];rfl
 have q0:qAt (natRV [n]) 0=(n:Rat):=(ZR rfl).trans (cn_q _)
 show [plcQ (turnF (baseF (sampA [3])) (qAt (natRV [n]) 0)) (shpAt (sampA [3]) 0)]=_
 rw [hb,q0,show shpAt (sampA [3]) 0=sampS 3 from Zev (l:=sampL 3) rfl]
 show [[putQ _ (cn n0Q).q (cn m1Q).q,putQ _ (cn ((3:Nat):Rat)).q (cn m1Q).q,putQ _ (cn ((3:Nat):Rat)).q (cn n1Q).q,putQ _ (cn n0Q).q (cn n1Q).q]]=_
 rw [cn_q,cn_q,cn_q,cn_q];rfl
theorem ZnX (n:Nat):hasE (sampA [3]) ((natRV [n]).length:Int)=0:=Zdi (by decide) (by decide) (by decide) rfl
theorem ZrS {n:Nat} (h:n< 256):∀ x,x∈natRV [n]→x.z≤1048576:=fun x hx=>Nat.le_trans (Zff (fun m hm=>by obtain rfl:=List.mem_singleton.1 hm;exact h) x hx) (by decide)
theorem ZrF {A:ArmV} {Q:List RV} (hA:armE A=0) (hQ:∀ x,x∈Q→x.z≤1048576):∀ a,a∈plcL A Q A.links.length→okP a:=fun a ha=>by
 obtain⟨i,hi⟩:=List.mem_iff_getElem?.1 ha
 obtain⟨rfl,hlt⟩:=Zom hi
 exact(ZkR hA hQ (List.getElem?_eq_getElem hlt)).1
end
end Go.Proofs.YtpfemjpgbpnpkaaGreatDoor.eng
