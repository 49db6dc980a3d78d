/- Joined by wip/bundle.py: XDec XRefA XRefB XNatJ XRatF. -/
import Derived.Test.YtncoimmjjfmhdaaGreatDoorGrpC
import Derived.Lib.TrimByte
import Derived.Test.YtncoimmjjfmhdaaGreatDoorGrpF
import Derived.Test.YtncoimmjjfmhdaaGreatDoorGrpE
namespace Go.Proofs.YtncoimmjjfmhdaaGreatDoor.dec
open num
def decL (n:Nat):List Nat:=if _h:n=0 then [] else n % 10 :: decL (n / 10)
termination_by n
decreasing_by omega
theorem decL_zero:decL 0= []:=by rw [decL];simp
theorem decL_pos {n:Nat} (h:n≠0):decL n=n % 10 :: decL (n / 10):=by
 rw [decL];simp [h]
theorem Zn5:∀ (n:Nat),∀ d∈decL n,d< 10:=by
 intro n
 induction n using Nat.strongRecOn with
 |ind n ih=>
  by_cases h:n=0
  ·subst h;rw [decL_zero];intro d hd;cases hd
  ·rw [decL_pos h]
   intro d hd
   rcases List.mem_cons.1 hd with rfl|hd
   ·omega
   ·exact ih (n / 10) (by omega) d hd
theorem ZgK {m : Nat} : ∀ {n : Nat}, n < 10 ^ m → (decL n).length ≤ m := by
  induction m with
  | zero => intro n h; have : n = 0 := by simpa using h
            subst this; rw [decL_zero]; exact Nat.le_refl _
  | succ m ih =>
    intro n h
    by_cases h0 : n = 0
    · subst h0; rw [decL_zero]; exact Nat.zero_le _
    · rw [decL_pos h0, List.length_cons]
      have : n / 10 < 10 ^ m := by rw [Nat.pow_succ] at h; omega
      exact Nat.succ_le_succ (ih this)
theorem ZiU {n k:Nat} (h:n< 256 ^ k):(decL n).length≤3*k:=by
 apply ZgK
 have h1:256 ^ k≤(10 ^ 3) ^ k:=Nat.pow_le_pow_left (by decide) k
 rw [← Nat.pow_mul] at h1
 omega
theorem ZfS {n:Nat} {D:List Nat} {v:Nat} (h:decL n=D++decL v) (hv:v≠0):decL n=(D++ [v % 10])++decL (v / 10):=by
 rw [h,decL_pos hv,List.append_assoc];rfl
def ascii (l:List Nat):ByteArray:=⟨(l.reverse.map fun d=>UInt8.ofNat (48+d)).toArray⟩
def dec (n:Nat):ByteArray:=if n=0 then ⟨#[48]⟩ else ascii (decL n)
theorem ZhX:dec 0=⟨#[48]⟩:=by unfold dec;rw [if_pos rfl]
theorem dec_pos {n:Nat} (h:n≠0):dec n=ascii (decL n):=by unfold dec;rw [if_neg h]
theorem ZgJ {n:Nat} (h:n≠0):decL n≠ []:=by rw [decL_pos h];simp
theorem ZhY {n:Nat} (h:decL n= []):n=0:=Decidable.byContradiction fun h0=>ZgJ h0 h
theorem ZoF {B:Nat} {l:List Nat} {k:Nat} (hl:l.length=k+1) (h:0< l.getD k 0) (hB:0< B):0< lv B l:=by
 have h1:=Zq B l k (by omega)
 rw [Zd _ _ (by omega)] at h1
 have:0< B ^ k*l.getD k 0:=Nat.mul_pos (Nat.pow_pos hB) h
 omega
theorem Zfw {B:Nat} {l:List Nat} {k:Nat} (h:l.getD k 0=0):lv B (l.take (k+1))=lv B (l.take k):=by
 rw [Zn,h,Nat.mul_zero,Nat.add_zero]
end Go.Proofs.YtncoimmjjfmhdaaGreatDoor.dec
namespace Go.Proofs.YtncoimmjjfmhdaaGreatDoor.refA
open Go.RowKit num mem natA natB natC natD
end Go.Proofs.YtncoimmjjfmhdaaGreatDoor.refA
namespace Go.Proofs.YtncoimmjjfmhdaaGreatDoor.refB
open Go.RowKit num mem natA natB natC natD refA
end Go.Proofs.YtncoimmjjfmhdaaGreatDoor.refB
namespace Go.Proofs.YtncoimmjjfmhdaaGreatDoor.natJ
open Go.RowKit num mem natA natB natC natD natE natF natG natH natI dec refA refB
def sliceLen:Value→Nat| .slice _ n _=>n|_=>0
theorem ZlR {r x:Nat} (hr:r< 10) (hx:x< 4294967296):∃ q r':Nat,
  IntKind.u64.wrap ((bits .or .u64 ((r:Int)*4294967296) (x:Int)).tdiv 10) % 4294967296=(q:Int)∧
  (bits .or .u64 ((r:Int)*4294967296) (x:Int)).tmod 10=(r':Int)∧q< 4294967296∧r'< 10∧q*10+r'=r*4294967296+x:=
 Zfe (y:=10) hr (by omega) hx
set_option maxHeartbeats 1000000 in
set_option maxRecDepth 100000 in
theorem Text_any (a:ByteArray) (w:World) (ha:a.size≤17592186044416):
  Calls Tryz.prog 130 #[.string a] w fun e w'=>e= .returned (.string (dec (nv a)))∧Below w.heap.size w w':=by
 obtain⟨n,hn⟩:∃ n,nv a=n:=⟨_,rfl⟩
 have hdl:(decL n).length≤52776558133248:=by
  have h1:=ZiU (Zl7 a)
  rw [hn] at h1
  omega
 rw [hn]
 have Hn:=Lib.hid hn
 have Hdl:=Lib.hid hdl
 clear hdl
 have hwn:wlen 4 n≤a.size:=by
  rw [← hn]
  refine(ZaT (by omega)).2 ?_
  have h1:=Zl7 a
  have h2:256 ^ a.size≤(256 ^ 4) ^ a.size:=Nat.pow_le_pow_left (by decide) _
  exact Nat.lt_of_lt_of_le h1 h2
 clear hn
 obtain⟨p,hp⟩:∃ p,wlen 4 n=p:=⟨_,rfl⟩
 have Hp:=Lib.hid hp
 rw [hp] at hwn
 clear hp
 go_enter Tryz.func130,Tryz.ntmps130
 go_wp2_with fail
 refine(Z5 a _ (by omega)).mono ?_
 rintro e w1 ⟨b,rfl,hX,hbx,hb1⟩
 rw [Hn.out,Hp.out]
 rw [Hn.out] at hX
 have hbl:=hX.lt
 go_wp2_with fail
 go_loopg [3,4] (decL n).length (fun g sl so wr=>∃ (D X:List Nat) (vo:Value),vo=so∧g=(decL (lv 4294967296 X)).length∧sl= .slice (some ⟨b,0,none⟩) X.length p∧X.length≤p∧Hid (∀ d∈X,d< 4294967296)∧Hid (0< X.length→0< lv 4294967296 X)∧Hid (decL n=D++decL (lv 4294967296 X))∧
   Pre wr b 128 p (nums .u32 X)∧wr.ownsRow w1.heap.size 5 1 vo D.length (nums .u8 (D.map (48+ ·)))∧Below w.heap.size w wr∧Hid (w1.heap.size≤wr.heap.size))
 case atStart=>
  refine⟨[],w32 n,_,rfl,by rw [Zan],by rw [Zl,Hp.out],by rw [Zl,Hp.out];exact Nat.le_refl _,ZaU n,?_,by show _=_;rw [Zan];rfl,?_,World.ownsRow_nil _ _ _ _,hb1,Nat.le_refl _⟩
  ·intro h
   rw [Zan]
   apply Nat.pos_of_ne_zero
   intro h0
   rw [Zl] at h
   have:=(@ZaT 4 n 0 (by omega)).2 (by rw [h0];simp)
   omega
  ·have:=hX.pre
   rw [Zv,Zl,Hp.out] at this
   exact this
 case round=>
  obtain⟨wo,rfl⟩:∃ wo:World,wo=wr:=⟨_,rfl⟩
  obtain⟨D,X,vo,rfl,hg,rfl,hXp,hXd,hXt,hdec,hP,hown,hB,hsz⟩:=hrel
  clear hX
  by_cases h0:0< X.length
  ·have hv0:=hXt.out h0
   have hgk:gk=(decL (lv 4294967296 X / 10)).length+1:=by rw [hg,decL_pos (by omega)];rfl
   subst hgk
   clear hg
   go_wp2_with fail
   go_loopw [5,6] (fun rr i wr=>∃ (k r:Nat) (e:Int) (Z:List Nat),k≤X.length∧i= .int .i64 e∧e=(k:Int) - 1∧rr= .int .u64 r∧r< 10∧Hid (Z.length=X.length - k)∧Hid (∀ d∈Z,d< 4294967296)∧Hid (lv 4294967296 Z*10+r=lv 4294967296 (X.drop k))∧
     Pre wr b 128 p (nums .u32 (X.take k++Z))∧wr.ownsRow w1.heap.size 5 1 vo D.length (nums .u8 (D.map (48+ ·)))∧Below w.heap.size w wr∧Hid (w1.heap.size≤wr.heap.size)) (fun _ i _=>(intOf i+1).toNat)
   case atStart=>
    refine⟨X.length,0,_, [],Nat.le_refl _,rfl,by go_num,rfl,by omega,by simp [Hid],(by intro d hd;cases hd),?_,?_,hown,hB,hsz⟩
    ·show _=_;rw [List.drop_of_length_le (Nat.le_refl _)];simp [lv]
    ·rw [List.append_nil,List.take_of_length_le (Nat.le_refl _)];exact hP
   case round=>
    obtain⟨k,r,e,Z,hk,rfl,he,rfl,hr,hZl,hZ,hlv,hPr,hownr,hBr,hszr⟩:=hrel
    clear hP hown hB hsz
    rcases k with _|j
    ·obtain rfl:e=-1:=by simpa using he
     clear he
     have hlz:lv 4294967296 Z=lv 4294967296 X / 10∧r=lv 4294967296 X % 10:=by
      have h1:=hlv.out
      rw [List.drop_zero] at h1
      omega
     have hPz:Pre wr b 128 p (nums .u32 Z):=hPr
     have HLZ:=Lib.hid hlz
     have hDl:D.length≤52776558133248:=by
      have h1:=Hdl.out
      rw [hdec.out,List.length_append] at h1
      omega
     rw [Nat.sub_zero] at hZl
     clear hlz hPr
     go_wp2_with (first|(at_builtin;refine Zf2 rfl _ _ _ rfl w1.heap.size 5 _ 1 Tryz.underlying157 natB.info5 rfl _ (nums .u8 (D.map (48+ ·))) rfl (by rw [Zv,List.length_map];exact hownr.alloc _) _ _ rfl (Zli _ _ _) rfl (by rw [Zv,List.length_map];omega) (by rw [Zv,List.length_map];omega) (by have:=hszr.out;simp;omega) ?_))
     intro v' w2 hown2 hg2
     have hPz2:=(hPz.alloc _).grown hg2 (by
      intro e
      have:=ZcW hownr b e.symm
      omega)
     have hB2:Below w.heap.size w w2:=(hBr.alloc hBr.size _).grown hg2 (hBr.alloc hBr.size _).size (by
      intro k hk
      have:=ZcW hownr k hk
      have:=hb1.size
      omega)
     have hsz2:=Lib.hid (show w1.heap.size≤w2.heap.size by
      have h1:=hg2.size
      have h2:=hszr.out
      simp at h1
      omega)
     rw [show (48:Int)+(r:Int)=((48+r:Nat):Int) by omega,Zke,Zv,List.length_map] at hown2
     clear hownr hPz hg2 hBr hszr
     go_wp2_with fail
     go_loop [3] (fun sl=>∃ k:Nat,k≤Z.length∧sl= .slice (some ⟨b,0,none⟩) k p∧Hid (lv 4294967296 (Z.take k)=lv 4294967296 Z)) (fun sl=>sliceLen sl)
     case atStart=>exact⟨Z.length,Nat.le_refl _,by rw [hZl.out],by show _=_;rw [List.take_of_length_le (Nat.le_refl _)]⟩
     case round=>
      obtain⟨k,hkz,rfl,hz⟩:=hrel
      rcases k with _|j
      ·go_wp2_with fail
       go_roundg (decL (lv 4294967296 X / 10)).length
       case measure=>omega
       case rel=>
        have hPk:=hPz2.take (0)
        rw [ZaY] at hPk
        have hlk:(Z.take (0)).length=0:=by rw [List.length_take];omega
        refine⟨D++ [r],Z.take (0),v',rfl,by rw [hz.out,HLZ.out.1],by rw [hlk],by rw [hlk];omega,fun d hd=>hZ.out d (List.mem_of_mem_take hd),?_,?_,hPk,?_,hB2,hsz2⟩
        ·intro h
         simp at h
        ·show _=_
         rw [hz.out,HLZ.out.1,HLZ.out.2]
         exact ZfS hdec.out (by omega)
        ·rw [List.length_append,List.map_append];exact hown2
      ·have c1:=hPz2.int (i:=j) (by omega)
       obtain⟨x,hx⟩:∃ x,x=Z.getD j 0:=⟨_,rfl⟩
       rw [← hx] at c1
       obtain⟨k,hkj⟩:∃ k,k=j+1:=⟨_,rfl⟩
       have hkZ:k≤Z.length:=by omega
       have hkX:k≤X.length:=by have:=hZl.out;omega
       have e1:IntKind.i64.wrap ((k:Int) - 1)=(j:Int):=by rw [IntWalk.i64_in _ (by omega)];omega
       have hk0:0< k:=by omega
       have hjz:j< Z.length:=by omega
       have hjk:j< k:=by omega
       rw [← hkj] at hz ⊢
       have Hkj:=Lib.hid hkj
       clear hkj hkz
       by_cases hx0:x=0
       ·subst hx0
        have hz2:=Lib.hid (show lv 4294967296 (Z.take j)=lv 4294967296 Z by rw [← hz.out,Hkj.out];exact(Zfw hx.symm).symm)
        clear hx
        go_wp2_with fail
        go_round
        case rel=>exact⟨j,by omega,rfl,hz2.out⟩
        case measure=>simp [sliceLen];exact hjk
       ·have hx1:((x:Int)==0)=false:=by simp;omega
        have Hx:=Lib.hid (show 0< Z.getD j 0 by omega)
        clear hx hx0
        go_wp2_with fail
        go_roundg (decL (lv 4294967296 X / 10)).length
        case measure=>omega
        case rel=>
         have hPk:=hPz2.take k
         rw [ZaY] at hPk
         have hlk:(Z.take k).length=k:=by rw [List.length_take];omega
         refine⟨D++ [r],Z.take k,v',rfl,by rw [hz.out,HLZ.out.1],by rw [hlk],by rw [hlk];omega,fun d hd=>hZ.out d (List.mem_of_mem_take hd),?_,?_,hPk,?_,hB2,hsz2⟩
         ·intro h
          refine ZoF (k:=j) (by rw [hlk,Hkj.out]) ?_ (by omega)
          rw [List.getD,List.getElem?_take_of_lt (by omega)]
          exact Hx.out
         ·show _=_
          rw [hz.out,HLZ.out.1,HLZ.out.2]
          exact ZfS hdec.out (by omega)
         ·rw [List.length_append,List.map_append];exact hown2
    ·obtain rfl:e=(j:Int):=by omega
     clear he
     obtain⟨x,hx⟩:∃ x:Nat,x=X.getD j 0:=⟨_,rfl⟩
     have hxl:x< 4294967296:=by rw [hx];exact Zo (by omega) hXd.out j
     have c1:=hPr.int (i:=j) (by rw [List.length_append,List.length_take,hZl.out];omega)
     rw [show (X.take (j+1)++Z).getD j 0=x by rw [hx];rw [List.getD,List.getElem?_append_left (by rw [List.length_take];omega),List.getElem?_take_of_lt (by omega)];rfl] at c1
     have f1:=hPr.frozen j
     have Hx:=Lib.hid hx
     obtain⟨q,r',e1,e2,hq,hr',h5⟩:=ZlR hr hxl
     have E1:=Lib.hid e1
     have E2:=Lib.hid e2
     have H5:=Lib.hid h5
     clear hx e1 e2 h5
     go_wp2_with fail
     go_roundw
     case rel=>
      rw [E1.out,E2.out]
      have hR':=hPr.int_set j q
      have hl:(X.take j).length=j:=by rw [List.length_take];omega
      have e:(X.take (j+1)++Z).set j q=X.take j++(q :: Z):=by
       rw [List.take_succ_eq_append_getElem (by omega),List.append_assoc,List.set_append_right _ _ (by rw [hl];exact Nat.le_refl _),hl,Nat.sub_self]
       rfl
      rw [e] at hR'
      refine⟨j,r',_,q :: Z,by omega,rfl,by go_num,rfl,hr',by have:=hZl.out;simp [Hid,this];omega,?_,?_,hR',ownsRow_setCell_below hownr hbl _,hBr.setCell hbx _,by show _≤_;simp [World.setCell];exact hszr.out⟩
      ·intro d hd
       rcases List.mem_cons.1 hd with rfl|hd
       ·exact hq
       ·exact hZ.out d hd
      ·show _=_
       have hd:X.drop j=x :: X.drop (j+1):=by
        rw [List.drop_eq_getElem_cons (by omega)]
        congr 1
        rw [Hx.out]
        simp [List.getD,List.getElem?_eq_getElem (show j< X.length by omega)]
       rw [hd,ZL,ZL,← hlv.out,Nat.add_mul,Nat.mul_add,Nat.mul_assoc]
       have:=H5.out
       generalize lv 4294967296 Z*10=z at*
       omega
     case measure=>simp [intOf]<;>omega
  ·have hX0:X= []:=List.eq_nil_of_length_eq_zero (by omega)
   subst hX0
   have hD:decL n=D:=by have:=hdec.out;rw [Zck,decL_zero,List.append_nil] at this;exact this
   clear hg hdec hXt hXd hXp h0 hP
   rcases Zl3 (by rw [Zv,List.length_map];exact hown) with ⟨rfl,hnil⟩|⟨g,cp,rfl,hg,hP⟩
   ·have hD0:D= []:=by simpa [nums] using hnil
    subst hD0
    have HV:=Lib.hid (show dec n=⟨#[48]⟩ by rw [ZhY hD,ZhX])
    clear hD
    go_wp2_with fail
    go_ret
    exact⟨ZC HV.out.symm,hB⟩
   ·rw [Zv,List.length_map] at*
    clear hown
    have hDl:D.length≤52776558133248:=by rw [← hD];exact Hdl.out
    have hDd:=Lib.hid (show ∀ d∈D,d< 10 by rw [← hD];exact Zn5 n)
    have HD:=Lib.hid hD
    obtain⟨E,hE⟩:∃ E,E=D.map (48+ ·):=⟨_,rfl⟩
    have hEl:E.length=D.length:=by rw [hE,List.length_map]
    rw [← hE] at hP
    have hP0:Pre wo g 5 cp (nums .u8 (revTo E 0)):=by rw [Zis];exact hP
    obtain⟨n',hn'⟩:∃ n,n=D.length:=⟨_,rfl⟩
    rw [← hn'] at hDl hEl ⊢
    by_cases hn0:n'=0
    ·have hD0:D= []:=List.eq_nil_of_length_eq_zero (by omega)
     subst hD0
     subst hn0
     have HV:=Lib.hid (show dec n=⟨#[48]⟩ by rw [ZhY hD,ZhX])
     clear hD hn' hP hP0 hE hEl
     go_wp2_with fail
     go_ret
     exact⟨ZC HV.out.symm,hB⟩
    ·have HE:=Lib.hid hE
     have HN:=Lib.hid (show E.length=n'∧n'=D.length from⟨hEl,hn'⟩)
     have hn1:0< n':=by omega
     clear hE hEl hP hD hn' hn0
     have hgw:w.heap.size≤g:=by have:=hb1.size;omega
     have HV:=Lib.hid (show (⟨(E.reverse.map fun d=>UInt8.ofNat d).toArray⟩:ByteArray)=dec n by
      have hn0:n≠0:=by
       intro h
       have h1:=HD.out
       rw [h,decL_zero] at h1
       have h2:=HN.out.2
       rw [← h1] at h2
       simp at h2
       omega
      rw [dec_pos hn0,HD.out,HE.out,← List.map_reverse,List.map_map]
      rfl)
     have HEd:=Lib.hid (show ∀ d∈E,d< 256 by
      rw [HE.out]
      intro d hd
      obtain⟨x,hx,rfl⟩:=List.mem_map.1 hd
      have:=hDd.out x hx
      show 48+x< 256
      omega)
     go_wp2_with fail
     go_loopw [7,8] (fun s6 s7 wx=>∃ (j:Nat) (e:Int),s6= .int .i64 j∧s7= .int .i64 e∧Hid (e=(n':Int) - 1 - (j:Int))∧2*j≤n'∧Pre wx g 5 cp (nums .u8 (revTo E j))∧Below w.heap.size w wx) (fun s6 _ _=>n' - (intOf s6).toNat)
     case atStart=>exact⟨0,_,rfl,rfl,by simp [Hid],by omega,hP0,hB⟩
     case round=>
      rename_i wx
      obtain⟨j,e,rfl,rfl,he,hj,hPj,hBj⟩:=hrel
      clear hP0 hB
      by_cases hlj:2*j+1< n'
      ·obtain⟨m,hm⟩:∃ m:Nat,e=(m:Int):=⟨n' - 1 - j,by have:=he.out;omega⟩
       subst hm
       have hm2:m=n' - 1 - j:=by have:=he.out;omega
       have hjm:j< m:=by omega
       have hmn:m< n':=by omega
       have Hm:=Lib.hid hm2
       clear hm2
       have c1:=hPj.int (i:=j) (by rw [Zcg,HN.out.1];omega)
       have c2:=hPj.int (i:=m) (by rw [Zcg,HN.out.1];omega)
       rw [Zfc (Nat.le_refl _) (by rw [HN.out.1];omega)] at c1
       rw [Zfc (by omega) (by rw [HN.out.1];have:=Hm.out;omega)] at c2
       obtain⟨x,hx⟩:∃ x,x=E.getD j 0:=⟨_,rfl⟩
       obtain⟨y,hy⟩:∃ y,y=E.getD m 0:=⟨_,rfl⟩
       rw [← hx] at c1
       rw [← hy] at c2
       have f1:=hPj.frozen j
       have f2:=hPj.frozen m
       have Hx:=Lib.hid hx
       have Hy:=Lib.hid hy
       clear hx hy
       go_wp2
       go_region
       go_wp2
       go_roundw
       case rel=>
        have hS:=(hPj.int_set j y).int_set m x
        rw [Hx.out,Hy.out,Hm.out,← HN.out.1,Zit (by rw [HN.out.1];exact hlj)] at hS
        refine⟨j+1,(m:Int) - 1,by go_num,by go_num,?_,by omega,?_,((hBj.setCell hgw _).setCell hgw _).drew⟩
        ·have:=he.out;show _=_;omega
        ·rw [Hx.out,Hy.out,Hm.out,← HN.out.1];exact hS.drew
       case measure=>simp [intOf]<;>omega
      ·have hnj:n'≤2*j+1:=by omega
       have HR:=Lib.hid (ZjM (D:=E) (j:=j) (by rw [HN.out.1];exact hj) (by rw [HN.out.1];exact hnj))
       rw [HR.out] at hPj
       have hcv:=Zlj hPj (fun d hd=>HEd.out d (by simpa using hd)) n' (by rw [List.length_reverse,HN.out.1])
       have he0:e=(n':Int) - 1 - (j:Int):=he.out
       have hej:¬ (j:Int)< e:=by omega
       clear he0 hnj hlj
       go_wp2_with fail
       go_ret
       exact⟨ZC (by rw [← List.map_reverse];exact HV.out),hBj⟩
end Go.Proofs.YtncoimmjjfmhdaaGreatDoor.natJ
namespace Go.Proofs.YtncoimmjjfmhdaaGreatDoor.ratF
open Go.RowKit num mem seg q ratA held ratB ratC ratD ratE vars
theorem Znw {p q:Rat} {u:Bool} {c f:ByteArray} {k:Int} (h:q=0∧u=false∧c=⟨#[]⟩∧f=⟨#[]⟩∧k=12∨q≠0∧k=0∧Is (p / q) u c f) (hq:q≠0):k=0∧Is (p / q) u c f:=by
 rcases h with h|h
 ·exact absurd h.1 hq
 ·exact h.2
def sgnQ (p:Rat):Int:=if p.num=0 then 0 else if p.num< 0 then -1 else 1
set_option maxHeartbeats 1000000 in
theorem ZjR (s:Bool) (a d:ByteArray) (w:World) (ha:a.size≤17592186044416) (hd:d.size≤17592186044416) (hT:Tab w):
  Calls Tryz.prog 90 #[.agg #[.bool s,.string a,.string d]] w fun x w'=>x= .returned (.int .i64 (sgnQ (qv s a d)))∧Below w.heap.size w w':=by
 have V0:=vars1 w 24 [.bool s,.string a,.string d]
 obtain⟨p,hp⟩:∃ p,qv s a d=p:=⟨_,rfl⟩
 rw [hp]
 have HP:=Lib.hid hp
 clear hp
 go_enter Tryz.func90,Tryz.ntmps90
 go_wp2_with fail
 refine(Z2 s a d _ ha hd (V0.tab hT)).mono ?_
 rintro _ w1 ⟨u,c,f,rfl,i1,hb1⟩
 rw [HP.out] at i1
 have V1:=V0.call hb1
 obtain⟨r0,r1,r2,f0,f1,f2⟩:=row3 (V1.row 0 rfl)
 obtain⟨n,m,rfl,rfl,hn,hm,hmp,hx⟩:=i1.parts
 have V2:=V1.put3 0 rfl (.bool u) (.string (enc n)) (.string (enc m))
 by_cases h0:n=0
 ·have HS:=Lib.hid (show sgnQ p=0 by unfold sgnQ;rw [if_pos (by rw [← hn,h0];unfold sg;simp)])
  subst h0
  rw [ZZ] at V2 ⊢
  clear hn hm hmp hx i1
  go_wp2_with fail
  go_ret
  exact⟨Zac HS.out.symm,V2.1⟩
 ·have hne:=natO.enc_ne (show 0< n by omega)
  have hnum:p.num≠0:=by
   intro h;apply h0;rw [hx,h];rfl
  have hu:=i1.1
  cases u with
  |true=>
   have HS:=Lib.hid (show sgnQ p=-1 by unfold sgnQ;rw [if_neg hnum,if_pos (by simpa using hu.symm)])
   clear hn hm hmp hx i1 h0 hnum hu
   go_wp2_with fail
   go_ret
   exact⟨Zac HS.out.symm,V2.1⟩
  |false=>
   have HS:=Lib.hid (show sgnQ p=1 by unfold sgnQ;rw [if_neg hnum,if_neg (by simpa using hu.symm)])
   clear hn hm hmp hx i1 h0 hnum hu
   go_wp2_with fail
   go_ret
   exact⟨Zac HS.out.symm,V2.1⟩
theorem Zn2:enc 2=⟨#[2]⟩:=by
 have h:nv ⟨#[2]⟩=2:=by decide
 rw [← h]
 exact Zay (by intro c r e;simp at e;rw [← e.1];decide)
theorem ZeB:Is (((2:Int):Rat) / ((-4:Int):Rat)) true ⟨#[1]⟩ ⟨#[2]⟩:=by
 have h1:(((2:Int):Rat) / ((-4:Int):Rat)).num=-1:=by decide+kernel
 have h2:(((2:Int):Rat) / ((-4:Int):Rat)).den=2:=by decide+kernel
 refine⟨?_,?_,?_⟩
 ·rw [h1];rfl
 ·rw [h1,← Zdc];rfl
 ·rw [h2,Zn2]
set_option maxHeartbeats 1000000 in
theorem Zly (w:World) (hT:Tab w):Calls Tryz.prog 77 #[.agg #[.bool true,.string ⟨#[1]⟩,.string ⟨#[2]⟩]] w fun x w'=>x= .returned (.string ⟨#[45,49,47,50]⟩)∧Below w.heap.size w w':=by
 have V0:=vars1 w 24 [.bool true,.string ⟨#[1]⟩,.string ⟨#[2]⟩]
 have d1:dec.dec 1=⟨#[49]⟩:=by rw [dec.dec_pos (by decide),dec.decL_pos (by decide),show 1 / 10=0 from rfl,dec.decL_zero];rfl
 have d2:dec.dec 2=⟨#[50]⟩:=by rw [dec.dec_pos (by decide),dec.decL_pos (by decide),show 2 / 10=0 from rfl,dec.decL_zero];rfl
 have D1:=Lib.hid d1
 have D2:=Lib.hid d2
 clear d1 d2
 go_enter Tryz.func77,Tryz.ntmps77
 go_wp2_with fail
 refine(Z2 _ _ _ _ (by decide) (by decide) (V0.tab hT)).mono ?_
 rintro _ w1 ⟨u,c,f,rfl,i1,hb1⟩
 rw [ZeB.val] at i1
 obtain⟨rfl,rfl,rfl⟩:=i1.inj ZeB
 clear i1
 have V1:=V0.call hb1
 obtain⟨r0,r1,r2,f0,f1,f2⟩:=row3 (V1.row 0 rfl)
 have V2:=V1.put3 0 rfl (.bool true) (.string ⟨#[1]⟩) (.string ⟨#[2]⟩)
 go_wp2_with fail
 refine(natJ.Text_any ⟨#[1]⟩ _ (by decide)).mono ?_
 rintro _ w2 ⟨rfl,hb2⟩
 rw [show nv ⟨#[1]⟩=1 from ZdR,D1.out]
 have V3:=V2.call hb2
 obtain⟨r0,r1,r2,f0,f1,f2⟩:=row3 (V3.row 0 rfl)
 go_wp2_with fail
 refine(natJ.Text_any ⟨#[2]⟩ _ (by decide)).mono ?_
 rintro _ w4 ⟨rfl,hb4⟩
 rw [show nv ⟨#[2]⟩=2 by decide,D2.out]
 have V4:=V3.call hb4
 go_wp2_with fail
 go_ret
 exact⟨by rfl,V4.1⟩
set_option maxHeartbeats 1000000 in
theorem Zff (w:World) (hT:Tab w):Calls Tryz.prog 32 #[] w fun x w'=>x= .returned (.bool true)∧Below w.heap.size w w':=by
 have V0:=Vars.nil w
 have hg:decide (good true ⟨#[1]⟩ ⟨#[2]⟩)=true:=decide_eq_true ZeB.fine
 have HG:=Lib.hid hg
 clear hg
 go_enter Tryz.func32,Tryz.ntmps32
 go_wp2_with fail
 refine(Zfh 2 (-4) _ (by decide) (by decide) (by decide) (by decide) (V0.tab hT)).mono ?_
 rintro _ w1 ⟨u,c,f,k,rfl,hq,hb1⟩
 obtain⟨rfl,i1⟩:=Znw hq (by decide+kernel)
 obtain⟨rfl,rfl,rfl⟩:=i1.inj ZeB
 clear hq i1
 have V1:=V0.call hb1
 have V2:=V1.push 24 [.bool true,.string ⟨#[1]⟩,.string ⟨#[2]⟩]
 obtain⟨r0,r1,r2,f0,f1,f2⟩:=row3 (V2.row 0 rfl)
 go_wp2_with fail
 refine(Zly _ (V2.tab hT)).mono ?_
 rintro _ w2 ⟨rfl,hb2⟩
 have V3:=V2.call hb2
 obtain⟨r0,r1,r2,f0,f1,f2⟩:=row3 (V3.row 0 rfl)
 go_wp2_with fail
 refine(ZcD _ _ _ _ (by decide) (by decide) (V3.tab hT)).mono ?_
 rintro _ w4 ⟨rfl,hb4⟩
 rw [HG.out]
 have V4:=V3.call hb4
 go_wp2_with fail
 go_ret
 exact⟨rfl,V4.1⟩
end Go.Proofs.YtncoimmjjfmhdaaGreatDoor.ratF
