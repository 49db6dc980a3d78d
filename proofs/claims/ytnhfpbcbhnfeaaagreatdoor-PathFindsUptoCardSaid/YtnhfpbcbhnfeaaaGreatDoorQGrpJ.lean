/- Joined by wip/bundle.py: XDec XRefA XRefB XNatJ XRatF. -/
import Derived.Lib.TrimByte
import Derived.Test.YtnhfpbcbhnfeaaaGreatDoorQGrpE
namespace Go.Proofs.YtnhfpbcbhnfeaaaGreatDoor.dec
open num
end Go.Proofs.YtnhfpbcbhnfeaaaGreatDoor.dec
namespace Go.Proofs.YtnhfpbcbhnfeaaaGreatDoor.refA
open Go.RowKit num mem natA natB natC natD
def dig(a:ByteArray)(i:Nat):Nat:=nv a/256^i%256
theorem dig_lt(a:ByteArray)(i:Nat):dig a i<=255:=by unfold dig;have:=Nat.mod_lt (nv a/256^i) (show 0<256 by omega);omega
end Go.Proofs.YtnhfpbcbhnfeaaaGreatDoor.refA
namespace Go.Proofs.YtnhfpbcbhnfeaaaGreatDoor.refB
open Go.RowKit num mem natA natB natC natD refA
theorem num_step{L D:List Nat}{k q x:Nat}(hD:D.length=k)(h:lv 256 D+q*256^k=lv 256 (L.take k))(hx:x=L.getD k 0):
  lv 256 (D++[(q+x)%256])+(q+x)/256*256^(k+1)=lv 256 (L.take (k+1)):=by
 have:=Zay (B:=256) (Y:=[]) (X:=L) (n:=(q+x)%256) (C:=(q+x)/256) (c:=q) hD (by simpa only[List.take_nil,Zda,Nat.add_zero]using h) (by rw[<-hx,show ([]:List Nat).getD k 0=0 from rfl];omega);simpa only[List.take_nil,Zda,Nat.add_zero]using this
end Go.Proofs.YtnhfpbcbhnfeaaaGreatDoor.refB
namespace Go.Proofs.YtnhfpbcbhnfeaaaGreatDoor.natJ
open Go.RowKit num mem natA natB natC natD natE natF natG natH natI dec refA refB
end Go.Proofs.YtnhfpbcbhnfeaaaGreatDoor.natJ
namespace Go.Proofs.YtnhfpbcbhnfeaaaGreatDoor.ratF
open Go.RowKit num mem seg q ratA held ratB ratC ratD ratE vars
def sgnQ(p:Rat):Int:=if p.num=0 then 0 else if p.num<0 then -1 else 1
set_option maxHeartbeats 1000000 in
theorem Zpc(s:Bool)(a d:ByteArray)(w:World)(ha:a.size<=17592186044416)(hd:d.size<=17592186044416)(hT:Tab w):
  Calls Tryz.prog 146 #[.agg #[.bool s,.string a,.string d]] w fun x w'=>x= .returned (.int .i64 (sgnQ (qv s a d)))/\Below w.heap.size w w':=by
 have V0:=vars1 w 23 [.bool s,.string a,.string d];obtain⟨p,hp⟩:∃p,qv s a d=p:=⟨_,rfl⟩;rw[hp];have HP:=Lib.hid hp;clear hp
 go_enter Tryz.func146,Tryz.ntmps146
 go_wp2_with fail;refine(Zak s a d _ ha hd (V0.tab hT)).mono ?_;rintro _ w1 ⟨u,c,f,rfl,i1,hb1⟩;rw[HP.out]at i1;have V1:=V0.call hb1;obtain⟨r0,r1,r2,f0,f1,f2⟩:=row3 (V1.row 0 rfl);obtain⟨n,m,rfl,rfl,hn,hm,hmp,hx⟩:=i1.parts;have V2:=V1.put3 0 rfl (.bool u) (.string (enc n)) (.string (enc m));by_cases h0:n=0
 .have HS:=Lib.hid (show sgnQ p=0 by unfold sgnQ;rw[if_pos (by rw[<-hn,h0];unfold sg;simp)]);subst h0;rw[ZV]at V2⊢;clear hn hm hmp hx i1;go_wp2_with fail
  go_ret
  exact⟨ZaD HS.out.symm,V2.1⟩
 .have hne:=natO.enc_ne (show 0<n by omega);have hnum:p.num≠0:=by
   intro h;apply h0;rw[hx,h];rfl
  have hu:=i1.1
  cases u with
  |true=>
   have HS:=Lib.hid (show sgnQ p=-1 by unfold sgnQ;rw[if_neg hnum,if_pos (by simpa using hu.symm)]);clear hn hm hmp hx i1 h0 hnum hu;go_wp2_with fail
   go_ret
   exact⟨ZaD HS.out.symm,V2.1⟩
  |false=>
   have HS:=Lib.hid (show sgnQ p=1 by unfold sgnQ;rw[if_neg hnum,if_neg (by simpa using hu.symm)]);clear hn hm hmp hx i1 h0 hnum hu;go_wp2_with fail
   go_ret
   exact⟨ZaD HS.out.symm,V2.1⟩
