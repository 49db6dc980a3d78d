/- Contracts: texts of numbers: rat.Text, rat.Read, gantref1.Fraction. Printed by wip/gp_rtxt.py. -/
import Derived.Test.YtpfemjpgbpnpkaaDoorGrpQ
import Derived.Test.YtpfemjpgbpnpkaaDoorEngFl
import Derived.Test.YtpfemjpgbpnpkaaDoorShelf
import Derived.Test.YtpfemjpgbpnpkaaDoorWg
set_option maxRecDepth 100000
namespace Go.Proofs.YtpfemjpgbpnpkaaDoor.eng
open Go.RowKit num mem seg q held ratA ratB ratC ratD ratE vars ratF natC natD natI natJ natK dec
section
variable {K : AV → Prop}
theorem ZhT {s t:ByteArray} {l l':Int} (e:s=t) (e2:l'=l) (h0:0≤l) (h1:l≤t.size) (w:World):(Instr.sliceAt 9 (.string s) (some (.int .i64 l')) none none).run Tryd.prog w= .ok (.string (t.extract l.toNat t.size)) w:=by
 subst e e2
 rw [run_sliceAt_string _ _ _ _ _ _ Tryd.underlying9]
 exact run_slice_string_l w _ _ Tryd.underlying9 .i64 _ h0 h1
theorem ZiM {s t:ByteArray} {h h':Int} (e:s=t) (e2:h'=h) (h0:0≤h) (h1:h≤t.size) (w:World):(Instr.sliceAt 9 (.string s) none (some (.int .i64 h')) none).run Tryd.prog w= .ok (.string (t.extract 0 h.toNat)) w:=by
 subst e e2
 rw [run_sliceAt_string _ _ _ _ _ _ Tryd.underlying9]
 exact run_slice_string_h w _ _ Tryd.underlying9 .i64 _ h0 h1
def hpS (s:ByteArray):Bool:=Lib.hasPrefix s.data.toList [45]
def cpS (s:ByteArray):ByteArray:=⟨(Lib.trimPrefix s.data.toList [45]).toArray⟩
def ixS (s:ByteArray):Int:=Lib.indexByte s.data.toList 47
theorem Zi1 {s:ByteArray} (h:hpS s=true):1≤s.size:=by
 have hl:s.data.toList.length=s.size:=ba_length s
 unfold hpS Lib.hasPrefix at h
 cases g:s.data.toList with
 |nil=>rw [g] at h;simp at h
 |cons a l=>rw [g] at hl;simp at hl;omega
theorem ZiG {s:ByteArray} (h:¬ hpS s=true):s=cpS s:=by
 have:Lib.hasPrefix s.data.toList [45]=false:=by simpa [hpS] using h
 unfold cpS Lib.trimPrefix
 rw [this]
 apply ZaQ
 simp
theorem Zhs {s:ByteArray} (h:hpS s=true):s.extract (1:Int).toNat s.size=cpS s:=by
 have:Lib.hasPrefix s.data.toList [45]=true:=h
 unfold cpS Lib.trimPrefix
 rw [this]
 apply ZaQ
 have hl:s.data.toList.length=s.size:=ba_length s
 rw [if_pos rfl]
 show (s.extract 1 s.size).data.toList=s.data.toList.drop 1
 rw [ByteArray.data_extract,Array.toList_extract]
 show (s.data.toList.drop 1).take (s.size - 1)=s.data.toList.drop 1
 exact List.take_of_length_le (by rw [List.length_drop];omega)
theorem ZfJ (s:ByteArray):(cpS s).size≤s.size:=by
 by_cases h:hpS s=true
 ·rw [← Zhs h,ByteArray.size_extract];omega
 ·rw [← ZiG h];exact Nat.le_refl _
theorem Zen (s:ByteArray):-1≤ixS s∧ixS s< s.size:=by
 have h:=Lib.indexByte_ge s.data.toList 47
 refine⟨h,?_⟩
 by_cases g:0≤ixS s
 ·have:=(Lib.indexByte_some (l:=s.data.toList) (c:=47) (o:=(ixS s).toNat) (by show ixS s=_;omega)).1
  have:=(List.getElem?_eq_some_iff.1 this).1
  rw [ba_length] at this
  omega
 ·omega
def aS (u:ByteArray):ByteArray:=if 0≤ixS u then u.extract 0 (ixS u).toNat else u
def b0S (u:ByteArray):ByteArray:=if 0≤ixS u then u.extract (ixS u+1).toNat u.size else ⟨#[]⟩
def bS (u:ByteArray):ByteArray:=if 0≤ixS u then u.extract (ixS u+1).toNat u.size else ⟨#[49]⟩
theorem ZjL {u:ByteArray} (h:0≤ixS u):b0S u=bS u:=by unfold b0S bS;rw [if_pos h,if_pos h]
theorem ZhH (u:ByteArray):(aS u).size≤u.size:=by
 unfold aS;split
 ·rw [ByteArray.size_extract];omega
 ·exact Nat.le_refl _
theorem ZhA {u:ByteArray} (h:u.size≤2000):(bS u).size≤2000:=by
 unfold bS;split
 ·rw [ByteArray.size_extract];omega
 ·exact of_decide_eq_true rfl
theorem ZiU (l:List Nat) (h:∀ d,d∈l→d≤9):numv l< 10 ^ l.length:=by
 have:∀ (l:List Nat),(∀ d,d∈l.reverse→d≤9)→numv l.reverse< 10 ^ l.length:=by
  intro l
  induction l with
  |nil=>intro _;decide
  |cons a r ih=>
   intro h
   rw [List.reverse_cons,Zeb]
   have h1:=ih fun d hd=>h d (by rw [List.reverse_cons];exact List.mem_append_left _ hd)
   have h2:=h a (by simp)
   rw [List.length_cons,Nat.pow_succ]
   omega
 have g:=this l.reverse (by rw [List.reverse_reverse];exact h)
 rwa [List.reverse_reverse,List.length_reverse] at g
theorem Z1 (s:ByteArray):readS s=enc (nv (readS s)):=by
 unfold readS;split
 ·rw [Zc]
 ·exact Zy.symm
theorem Zar {s:ByteArray} (h:¬ readS s=⟨#[]⟩):0< nv (readS s):=by
 rcases Nat.eq_zero_or_pos (nv (readS s)) with g|g
 ·exact absurd (by rw [Z1,g,Zy]) h
 ·exact g
theorem ZaT {s:ByteArray} (hs:s.size≤2000):(readS s).size≤1000:=by
 unfold readS;split
 ·rename_i h
  rw [Zg]
  have:=ZiU ((List.range s.size).map fun j=>chr s j - 48) (by
   intro d hd
   obtain⟨j,hj,rfl⟩:=List.mem_map.1 hd
   have:=(h.2.2 j (List.mem_range.1 hj)).2
   omega)
  rw [List.length_map,List.length_range] at this
  exact Nat.lt_of_lt_of_le this (Nat.le_trans (Nat.pow_le_pow_right (by decide) hs) (by decide+kernel))
 ·exact Nat.zero_le _
def frQ (s:ByteArray):Rat:=mkRat (sg (hpS s) (nv (readS (aS (cpS s))))) (nv (readS (bS (cpS s))))
def frE (s:ByteArray):Int:=if s.size≤2000 then (if readE (aS (cpS s))=0 then (if readE (bS (cpS s))=0 then (if readS (bS (cpS s))=⟨#[]⟩ then 12 else 0) else readE (bS (cpS s))) else readE (aS (cpS s))) else 2
noncomputable def frV (s:ByteArray):RV:=if frE s=0 then cn (frQ s) else z0
theorem Zjs {s:ByteArray} (h:¬ s.size≤2000):frE s=2:=if_neg h
theorem Zgp {s:ByteArray} (h:s.size≤2000) (g:¬ readE (aS (cpS s))=0):frE s=readE (aS (cpS s)):=by unfold frE;rw [if_pos h,if_neg g]
theorem Zgo {s:ByteArray} (h:s.size≤2000) (g:readE (aS (cpS s))=0) (k:¬ readE (bS (cpS s))=0):frE s=readE (bS (cpS s)):=by unfold frE;rw [if_pos h,if_pos g,if_neg k]
theorem Zc4 {s:ByteArray} (h:s.size≤2000) (g:readE (aS (cpS s))=0) (k:readE (bS (cpS s))=0) (l:readS (bS (cpS s))=⟨#[]⟩):frE s=12:=by unfold frE;rw [if_pos h,if_pos g,if_pos k,if_pos l]
theorem Zgq {s:ByteArray} (h:s.size≤2000) (g:readE (aS (cpS s))=0) (k:readE (bS (cpS s))=0) (l:¬ readS (bS (cpS s))=⟨#[]⟩):frE s=0:=by unfold frE;rw [if_pos h,if_pos g,if_pos k,if_neg l]
theorem ZX {s:ByteArray} {e:Int} (h:frE s=e) (g:¬ e=0):frV s=z0:=if_neg (by rw [h];exact g)
theorem Zc3 {s:ByteArray} (h:frE s=0):frV s=cn (frQ s):=if_pos h
theorem szm:(ByteArray.mk #[45]).size=1:=rfl
theorem szs:(ByteArray.mk #[47]).size=1:=rfl
def t1S (r:RV):ByteArray:=if r.s=true then ⟨#[45]⟩++dec.dec (nv r.a) else dec.dec (nv r.a)
def txR (r:RV):ByteArray:=if r.d=⟨#[1]⟩ then t1S r else t1S r++(⟨#[47]⟩++dec.dec (nv r.d))
theorem ZdI {r:RV} (h:r.s=true) (g:r.d=⟨#[1]⟩):txR r=⟨#[45]⟩++dec.dec (nv r.a):=by unfold txR t1S;rw [if_pos g,if_pos h]
theorem ZdJ {r:RV} (h:r.s=true) (g:¬ r.d=⟨#[1]⟩):txR r=(⟨#[45]⟩++dec.dec (nv r.a))++(⟨#[47]⟩++dec.dec (nv r.d)):=by unfold txR t1S;rw [if_neg g,if_pos h]
theorem ZdK {r:RV} (h:¬ r.s=true) (g:r.d=⟨#[1]⟩):txR r=dec.dec (nv r.a):=by unfold txR t1S;rw [if_pos g,if_neg h]
theorem ZdL {r:RV} (h:¬ r.s=true) (g:¬ r.d=⟨#[1]⟩):txR r=dec.dec (nv r.a)++(⟨#[47]⟩++dec.dec (nv r.d)):=by unfold txR t1S;rw [if_neg g,if_neg h]
theorem ZbX {a:ByteArray} (h:a.size≤4398046511110):(dec.dec (nv a)).size≤13194139533331:=by
 unfold dec.dec
 split
 ·exact of_decide_eq_true rfl
 ·have:=ZbC (Zbl a)
  have e:(ascii (decL (nv a))).size=(decL (nv a)).length:=by unfold ascii;simp [ByteArray.size]
  rw [e]
  omega
theorem Zhd (s:ByteArray):Spec Tryd.prog Tab 45 [str s,str ⟨#[45]⟩] (bool (hpS s)):=
 Zs (Zw Tryd.func45 rfl rfl) rfl rfl fun w _=>(Tryd.strings_HasPrefix s ⟨#[45]⟩ w).mono fun _ _ h=>⟨h.1,by rw [h.2];exact Below.refl _ _⟩
theorem Zhq (s:ByteArray):Spec Tryd.prog Tab 41 [str s,str ⟨#[45]⟩] (two (str (cpS s)) (bool (hpS s))):=
 Zs (Zw Tryd.func41 rfl rfl) rfl rfl fun w _=>(Tryd.strings_CutPrefix s ⟨#[45]⟩ w).mono fun _ _ h=>⟨h.1,by rw [h.2];exact Below.refl _ _⟩
theorem Zgi (s:ByteArray):Spec Tryd.prog Tab 102 [str s,str ⟨#[47]⟩] (int (ixS s)):=
 Zs (Zw Tryd.func102 rfl rfl) rfl rfl fun w _=>(Tryd.stringslite_Index_one s 47 w).mono fun _ _ h=>⟨h.1,by rw [h.2];exact Below.refl _ _⟩
theorem Zih (s:ByteArray):Spec Tryd.prog Tab 46 [str s,.val (.one (.d (.v (.int .u8 (47)))))] (int (ixS s)):=
 Zs (Zw Tryd.func46 rfl rfl) rfl rfl fun w _=>(Tryd.strings_IndexByte s 47 w).mono fun _ _ h=>⟨h.1,by rw [h.2];exact Below.refl _ _⟩
theorem Zjr {s t:ByteArray} (e:s=t) (k:K (int (ixS t))):Ask 46 [str s,.val (.one (.d (.v (.int .u8 (47)))))] K:=by subst e;exact use (Zih s) rfl k
theorem Zf9 (s:ByteArray) (hs:s.size≤2000):Spec Tryd.prog Tab 43 [str s] (two (str (readS s)) (int (readE s))):=
 Zs (Zw Tryd.func43 rfl rfl) rfl rfl fun w _=>(Ziu s w hs).mono fun _ _ h=>h
theorem Zdz {s t:ByteArray} (e:s=t) (hs:t.size≤2000) (k:K (two (str (readS t)) (int (readE t)))):Ask 43 [str s] K:=by subst e;exact use (Zf9 s hs) rfl k
theorem ZbJ {s t:ByteArray} (e:s=t) (hs:t.size≤2000) (k:K (two (str (readS t)) (int (readE t)))):Ask 47 [str s] K:=by subst e;exact use (Zdp s hs) rfl k
theorem Zbx (a:ByteArray) (ha:a.size≤17592186044416):Spec Tryd.prog Tab 50 [str a] (str (dec.dec (nv a))):=
 Zs (Zw Tryd.func50 rfl rfl) rfl rfl fun w _=>(Text_any a w ha).mono fun _ _ h=>h
theorem Zhr (s:ByteArray) (hs:s.size≤2000):Spec Tryd.prog Tab 69 [str s,str (ByteArray.mk #[47])] (.tup [.one (.d (.v (.string (aS s)))),.one (.d (.v (.string (b0S s)))),.one (.d (.v (.bool (decide (0≤ixS s)))))]):=by
 have hx:=Zen s
 have e20:IntKind.i64.wrap (ixS s+((ByteArray.mk #[47]).size:Int))=ixS s+1:=by rw [show ((ByteArray.mk #[47]).size:Int)=1 from rfl,wrap64 _ (by omega) (by omega)]
 refine Zap Tryd.func69 rfl rfl Tryd.ntmps69 rfl (by kernel_rfl) rfl rfl ?_
 refine use (Zgi s) rfl ?_
 refine⟨fun e1=> ?_,fun e1=> ?_⟩
 ·have f12:ixS s≥0:=of_decide_eq_true e1
  refine⟨_,⟨(s.extract 0 (ixS s).toNat),rfl,fun w=>ZiM rfl rfl f12 (by omega) w⟩,?_⟩
  refine⟨_,⟨(s.extract (ixS s+1).toNat s.size),rfl,fun w=>ZhT rfl e20 (by omega) (by omega) w⟩,?_⟩
  refine⟨by kernel_rfl,?_⟩
  refine Eq.trans (b:= .tup [.one (.d (.v (.string (s.extract 0 (ixS s).toNat)))),.one (.d (.v (.string (s.extract (ixS s+1).toNat s.size)))),.one (.d (.v (.bool (true))))]) ?_ rfl
  rw [show aS s=s.extract 0 (ixS s).toNat from if_pos f12,show b0S s=s.extract (ixS s+1).toNat s.size from if_pos f12,decide_eq_true f12]
  all_goals rfl
 ·have f12:¬ (ixS s≥0):=of_decide_eq_false e1
  refine Eq.trans (b:= .tup [.one (.d (.v (.string s))),.one (.d (.v (.string (ByteArray.mk #[])))),.one (.d (.v (.bool (false))))]) ?_ rfl
  rw [show aS s=s from if_neg f12,show b0S s=⟨#[]⟩ from if_neg f12,decide_eq_false f12]
  all_goals rfl
theorem Zio (s:ByteArray) (hs:s.size≤2000):Spec Tryd.prog Tab 42 [str s,str (ByteArray.mk #[47])] (.tup [.one (.d (.v (.string (aS s)))),.one (.d (.v (.string (b0S s)))),.one (.d (.v (.bool (decide (0≤ixS s)))))]):=by
 refine Zap Tryd.func42 rfl rfl Tryd.ntmps42 rfl (by kernel_rfl) rfl rfl ?_
 refine use (Zhr s (by omega)) rfl ?_
 refine Eq.trans (b:= .tup [.one (.d (.v (.string (aS s)))),.one (.d (.v (.string (b0S s)))),.one (.d (.v (.bool (decide (0≤ixS s)))))]) ?_ rfl
 rfl
theorem ZaU (s:ByteArray):Spec Tryd.prog Tab 15 [str s] (.tup [.agg [.d (.v (.bool (frV s).s)),.d (.v (.string (frV s).a)),.d (.v (.string (frV s).d))],.one (.d (.v (.int .i64 (frE s))))]):=by
 have hcz:=ZfJ s
 have haz:=ZhH (cpS s)
 refine Zap Tryd.func15 rfl rfl Tryd.ntmps15 rfl (by kernel_rfl) rfl rfl ?_
 refine⟨fun e1=> ?_,fun e1=> ?_⟩
 ·have f13:(s.size:Int) >2000:=of_decide_eq_true e1
  refine Eq.trans (b:= .tup [.agg [.d (.v (.bool z0.s)),.d (.v (.string z0.a)),.d (.v (.string z0.d))],.one (.d (.v (.int .i64 (2))))]) ?_ rfl
  have hv:=Zjs (s:=s) (by omega)
  rw [ZX hv (by decide),hv]
  all_goals rfl
 ·have f13:¬ ((s.size:Int) >2000):=of_decide_eq_false e1
  have hbz:(bS (cpS s)).size≤2000:=ZhA (by omega)
  have hra:(readS (aS (cpS s))).size≤1000:=ZaT (by omega)
  have hrb:(readS (bS (cpS s))).size≤1000:=ZaT hbz
  refine use (Zhq s) rfl ?_
  refine use (Zio (cpS s) (by omega)) rfl ?_
  refine⟨fun e2=> ?_,fun e2=> ?_⟩
  ·have f27:¬ (0≤ixS (cpS s)):=of_decide_eq_false (ZjC e2)
   refine Zdz (t:=(aS (cpS s))) rfl (by omega) ?_
   refine⟨fun e3=> ?_,fun e3=> ?_⟩
   ·have f34:readE (aS (cpS s))≠0:=ZbO e3
    refine Eq.trans (b:= .tup [.agg [.d (.v (.bool z0.s)),.d (.v (.string z0.a)),.d (.v (.string z0.d))],.one (.d (.v (.int .i64 (readE (aS (cpS s))))))]) ?_ rfl
    have hv:=Zgp (s:=s) (by omega) f34
    rw [ZX hv f34,hv]
    all_goals rfl
   ·have f34:¬ (readE (aS (cpS s))≠0):=fun hh=>hh (ZbP e3)
    refine Zdz (t:=(bS (cpS s))) (if_neg f27).symm (by omega) ?_
    refine⟨fun e4=> ?_,fun e4=> ?_⟩
    ·have f43:readE (bS (cpS s))≠0:=ZbO e4
     refine Eq.trans (b:= .tup [.agg [.d (.v (.bool z0.s)),.d (.v (.string z0.a)),.d (.v (.string z0.d))],.one (.d (.v (.int .i64 (readE (bS (cpS s))))))]) ?_ rfl
     have hv:=Zgo (s:=s) (by omega) (Classical.not_not.1 f34) f43
     rw [ZX hv f43,hv]
     all_goals rfl
    ·have f43:¬ (readE (bS (cpS s))≠0):=fun hh=>hh (ZbP e4)
     refine Zu (fun f47=> ?_) (fun f47=> ?_)
     ·refine⟨fun _=> ?_,fun e=>absurd e (by decide)⟩
      refine Eq.trans (b:= .tup [.agg [.d (.v (.bool z0.s)),.d (.v (.string z0.a)),.d (.v (.string z0.d))],.one (.d (.v (.int .i64 (12))))]) ?_ rfl
      have hv:=Zc4 (s:=s) (by omega) (Classical.not_not.1 f34) (Classical.not_not.1 f43) f47
      rw [ZX hv (by decide),hv]
      all_goals rfl
     ·refine⟨fun e=>absurd e (by decide),fun _=> ?_⟩
      refine ZiD (nv (readS (aS (cpS s)))) (nv (readS (bS (cpS s)))) (Z1 _) (Z1 _) (by rw [← Z1];omega) (by rw [← Z1];omega) (Zar f47) ?_
      refine Eq.trans (b:= .tup [.agg [.d (.v (.bool (cn (frQ s)).s)),.d (.v (.string (cn (frQ s)).a)),.d (.v (.string (cn (frQ s)).d))],.one (.d (.v (.int .i64 (0))))]) ?_ rfl
      have hv:=Zgq (s:=s) (by omega) (Classical.not_not.1 f34) (Classical.not_not.1 f43) f47
      rw [Zc3 hv,hv]
      all_goals rfl
  ·have f27:¬ (¬ (0≤ixS (cpS s))):=fun hh=>hh (of_decide_eq_true (ZjD e2))
   refine Zdz (t:=(aS (cpS s))) rfl (by omega) ?_
   refine⟨fun e5=> ?_,fun e5=> ?_⟩
   ·have f34:readE (aS (cpS s))≠0:=ZbO e5
    refine Eq.trans (b:= .tup [.agg [.d (.v (.bool z0.s)),.d (.v (.string z0.a)),.d (.v (.string z0.d))],.one (.d (.v (.int .i64 (readE (aS (cpS s))))))]) ?_ rfl
    have hv:=Zgp (s:=s) (by omega) f34
    rw [ZX hv f34,hv]
    all_goals rfl
   ·have f34:¬ (readE (aS (cpS s))≠0):=fun hh=>hh (ZbP e5)
    refine Zdz (t:=(bS (cpS s))) (ZjL (Classical.not_not.1 f27)) (by omega) ?_
    refine⟨fun e6=> ?_,fun e6=> ?_⟩
    ·have f43:readE (bS (cpS s))≠0:=ZbO e6
     refine Eq.trans (b:= .tup [.agg [.d (.v (.bool z0.s)),.d (.v (.string z0.a)),.d (.v (.string z0.d))],.one (.d (.v (.int .i64 (readE (bS (cpS s))))))]) ?_ rfl
     have hv:=Zgo (s:=s) (by omega) (Classical.not_not.1 f34) f43
     rw [ZX hv f43,hv]
     all_goals rfl
    ·have f43:¬ (readE (bS (cpS s))≠0):=fun hh=>hh (ZbP e6)
     refine Zu (fun f47=> ?_) (fun f47=> ?_)
     ·refine⟨fun _=> ?_,fun e=>absurd e (by decide)⟩
      refine Eq.trans (b:= .tup [.agg [.d (.v (.bool z0.s)),.d (.v (.string z0.a)),.d (.v (.string z0.d))],.one (.d (.v (.int .i64 (12))))]) ?_ rfl
      have hv:=Zc4 (s:=s) (by omega) (Classical.not_not.1 f34) (Classical.not_not.1 f43) f47
      rw [ZX hv (by decide),hv]
      all_goals rfl
     ·refine⟨fun e=>absurd e (by decide),fun _=> ?_⟩
      refine ZiD (nv (readS (aS (cpS s)))) (nv (readS (bS (cpS s)))) (Z1 _) (Z1 _) (by rw [← Z1];omega) (by rw [← Z1];omega) (Zar f47) ?_
      refine Eq.trans (b:= .tup [.agg [.d (.v (.bool (cn (frQ s)).s)),.d (.v (.string (cn (frQ s)).a)),.d (.v (.string (cn (frQ s)).d))],.one (.d (.v (.int .i64 (0))))]) ?_ rfl
      have hv:=Zgq (s:=s) (by omega) (Classical.not_not.1 f34) (Classical.not_not.1 f43) f47
      rw [Zc3 hv,hv]
      all_goals rfl
theorem Za1 (s:ByteArray):Spec Tryd.prog Tab 16 [str s] (.tup [.agg [.d (.v (.bool (frV s).s)),.d (.v (.string (frV s).a)),.d (.v (.string (frV s).d))],.one (.d (.v (.int .i64 (frE s))))]):=by
 have hcz:=ZfJ s
 have haz:=ZhH (cpS s)
 have hx:=Zen (cpS s)
 refine Zap Tryd.func16 rfl rfl Tryd.ntmps16 rfl (by kernel_rfl) rfl rfl ?_
 refine⟨fun e1=> ?_,fun e1=> ?_⟩
 ·have f12:(s.size:Int) >2000:=of_decide_eq_true e1
  refine Eq.trans (b:= .tup [.agg [.d (.v (.bool z0.s)),.d (.v (.string z0.a)),.d (.v (.string z0.d))],.one (.d (.v (.int .i64 (2))))]) ?_ rfl
  have hv:=Zjs (s:=s) (by omega)
  rw [ZX hv (by decide),hv]
  all_goals rfl
 ·have f12:¬ ((s.size:Int) >2000):=of_decide_eq_false e1
  have hbz:(bS (cpS s)).size≤2000:=ZhA (by omega)
  have hra:(readS (aS (cpS s))).size≤1000:=ZaT (by omega)
  have hrb:(readS (bS (cpS s))).size≤1000:=ZaT hbz
  refine use (Zhd s) rfl ?_
  refine⟨fun e2=> ?_,fun e2=> ?_⟩
  ·have f16:hpS s=true:=e2
   have hcp0:s.extract (1:Int).toNat s.size=cpS s:=Zhs f16
   have hp1:=Zi1 f16
   refine⟨_,⟨(s.extract (1:Int).toNat s.size),rfl,fun w=>ZhT rfl rfl (by decide) (by omega) w⟩,?_⟩
   refine Zjr (t:=cpS s) hcp0 ?_
   refine⟨fun e3=> ?_,fun e3=> ?_⟩
   ·have f22:ixS (cpS s)≥0:=of_decide_eq_true e3
    have ha0:(cpS s).extract 0 (ixS (cpS s)).toNat=aS (cpS s):=(if_pos f22).symm
    have hb0:(cpS s).extract (ixS (cpS s)+1).toNat (cpS s).size=bS (cpS s):=(if_pos f22).symm
    have e28:IntKind.i64.wrap (ixS (cpS s)+1)=ixS (cpS s)+1:=wrap64 _ (by omega) (by omega)
    refine⟨_,⟨((cpS s).extract 0 (ixS (cpS s)).toNat),rfl,fun w=>ZiM hcp0 rfl f22 (by omega) w⟩,?_⟩
    refine⟨_,⟨((cpS s).extract (ixS (cpS s)+1).toNat (cpS s).size),rfl,fun w=>ZhT hcp0 e28 (by omega) (by omega) w⟩,?_⟩
    refine⟨by kernel_rfl,?_⟩
    refine ZbJ (t:=(aS (cpS s))) ha0 (by omega) ?_
    refine⟨fun e4=> ?_,fun e4=> ?_⟩
    ·have f36:readE (aS (cpS s))≠0:=ZbO e4
     refine Eq.trans (b:= .tup [.agg [.d (.v (.bool z0.s)),.d (.v (.string z0.a)),.d (.v (.string z0.d))],.one (.d (.v (.int .i64 (readE (aS (cpS s))))))]) ?_ rfl
     have hv:=Zgp (s:=s) (by omega) f36
     rw [ZX hv f36,hv]
     all_goals rfl
    ·have f36:¬ (readE (aS (cpS s))≠0):=fun hh=>hh (ZbP e4)
     refine ZbJ (t:=(bS (cpS s))) hb0 (by omega) ?_
     refine⟨fun e5=> ?_,fun e5=> ?_⟩
     ·have f45:readE (bS (cpS s))≠0:=ZbO e5
      refine Eq.trans (b:= .tup [.agg [.d (.v (.bool z0.s)),.d (.v (.string z0.a)),.d (.v (.string z0.d))],.one (.d (.v (.int .i64 (readE (bS (cpS s))))))]) ?_ rfl
      have hv:=Zgo (s:=s) (by omega) (Classical.not_not.1 f36) f45
      rw [ZX hv f45,hv]
      all_goals rfl
     ·have f45:¬ (readE (bS (cpS s))≠0):=fun hh=>hh (ZbP e5)
      refine Zu (fun f49=> ?_) (fun f49=> ?_)
      ·refine⟨fun _=> ?_,fun e=>absurd e (by decide)⟩
       refine Eq.trans (b:= .tup [.agg [.d (.v (.bool z0.s)),.d (.v (.string z0.a)),.d (.v (.string z0.d))],.one (.d (.v (.int .i64 (12))))]) ?_ rfl
       have hv:=Zc4 (s:=s) (by omega) (Classical.not_not.1 f36) (Classical.not_not.1 f45) f49
       rw [ZX hv (by decide),hv]
       all_goals rfl
      ·refine⟨fun e=>absurd e (by decide),fun _=> ?_⟩
       refine ZfA (r:=⟨hpS s,readS (aS (cpS s)),readS (bS (cpS s))⟩) (p:=frQ s) ⟨Zar f49,rfl⟩ (RV.z_of (k:=4398046511104) (by omega) (by omega)) ?_
       refine Eq.trans (b:= .tup [.agg [.d (.v (.bool (cn (frQ s)).s)),.d (.v (.string (cn (frQ s)).a)),.d (.v (.string (cn (frQ s)).d))],.one (.d (.v (.int .i64 (0))))]) ?_ rfl
       have hv:=Zgq (s:=s) (by omega) (Classical.not_not.1 f36) (Classical.not_not.1 f45) f49
       rw [Zc3 hv,hv]
       all_goals rfl
   ·have f22:¬ (ixS (cpS s)≥0):=of_decide_eq_false e3
    have ha0:s.extract (1:Int).toNat s.size=aS (cpS s):=hcp0.trans (if_neg f22).symm
    have hb0:(ByteArray.mk #[49])=bS (cpS s):=(if_neg f22).symm
    refine ZbJ (t:=(aS (cpS s))) ha0 (by omega) ?_
    refine⟨fun e6=> ?_,fun e6=> ?_⟩
    ·have f36:readE (aS (cpS s))≠0:=ZbO e6
     refine Eq.trans (b:= .tup [.agg [.d (.v (.bool z0.s)),.d (.v (.string z0.a)),.d (.v (.string z0.d))],.one (.d (.v (.int .i64 (readE (aS (cpS s))))))]) ?_ rfl
     have hv:=Zgp (s:=s) (by omega) f36
     rw [ZX hv f36,hv]
     all_goals rfl
    ·have f36:¬ (readE (aS (cpS s))≠0):=fun hh=>hh (ZbP e6)
     refine ZbJ (t:=(bS (cpS s))) hb0 (by omega) ?_
     refine⟨fun e7=> ?_,fun e7=> ?_⟩
     ·have f45:readE (bS (cpS s))≠0:=ZbO e7
      refine Eq.trans (b:= .tup [.agg [.d (.v (.bool z0.s)),.d (.v (.string z0.a)),.d (.v (.string z0.d))],.one (.d (.v (.int .i64 (readE (bS (cpS s))))))]) ?_ rfl
      have hv:=Zgo (s:=s) (by omega) (Classical.not_not.1 f36) f45
      rw [ZX hv f45,hv]
      all_goals rfl
     ·have f45:¬ (readE (bS (cpS s))≠0):=fun hh=>hh (ZbP e7)
      refine Zu (fun f49=> ?_) (fun f49=> ?_)
      ·refine⟨fun _=> ?_,fun e=>absurd e (by decide)⟩
       refine Eq.trans (b:= .tup [.agg [.d (.v (.bool z0.s)),.d (.v (.string z0.a)),.d (.v (.string z0.d))],.one (.d (.v (.int .i64 (12))))]) ?_ rfl
       have hv:=Zc4 (s:=s) (by omega) (Classical.not_not.1 f36) (Classical.not_not.1 f45) f49
       rw [ZX hv (by decide),hv]
       all_goals rfl
      ·refine⟨fun e=>absurd e (by decide),fun _=> ?_⟩
       refine ZfA (r:=⟨hpS s,readS (aS (cpS s)),readS (bS (cpS s))⟩) (p:=frQ s) ⟨Zar f49,rfl⟩ (RV.z_of (k:=4398046511104) (by omega) (by omega)) ?_
       refine Eq.trans (b:= .tup [.agg [.d (.v (.bool (cn (frQ s)).s)),.d (.v (.string (cn (frQ s)).a)),.d (.v (.string (cn (frQ s)).d))],.one (.d (.v (.int .i64 (0))))]) ?_ rfl
       have hv:=Zgq (s:=s) (by omega) (Classical.not_not.1 f36) (Classical.not_not.1 f45) f49
       rw [Zc3 hv,hv]
       all_goals rfl
  ·have f16:¬ (hpS s=true):=fun hh=>Bool.false_ne_true (e2.symm.trans hh)
   have hcp0:s=cpS s:=ZiG f16
   refine Zjr (t:=cpS s) hcp0 ?_
   refine⟨fun e8=> ?_,fun e8=> ?_⟩
   ·have f22:ixS (cpS s)≥0:=of_decide_eq_true e8
    have ha0:(cpS s).extract 0 (ixS (cpS s)).toNat=aS (cpS s):=(if_pos f22).symm
    have hb0:(cpS s).extract (ixS (cpS s)+1).toNat (cpS s).size=bS (cpS s):=(if_pos f22).symm
    have e28:IntKind.i64.wrap (ixS (cpS s)+1)=ixS (cpS s)+1:=wrap64 _ (by omega) (by omega)
    refine⟨_,⟨((cpS s).extract 0 (ixS (cpS s)).toNat),rfl,fun w=>ZiM hcp0 rfl f22 (by omega) w⟩,?_⟩
    refine⟨_,⟨((cpS s).extract (ixS (cpS s)+1).toNat (cpS s).size),rfl,fun w=>ZhT hcp0 e28 (by omega) (by omega) w⟩,?_⟩
    refine⟨by kernel_rfl,?_⟩
    refine ZbJ (t:=(aS (cpS s))) ha0 (by omega) ?_
    refine⟨fun e9=> ?_,fun e9=> ?_⟩
    ·have f36:readE (aS (cpS s))≠0:=ZbO e9
     refine Eq.trans (b:= .tup [.agg [.d (.v (.bool z0.s)),.d (.v (.string z0.a)),.d (.v (.string z0.d))],.one (.d (.v (.int .i64 (readE (aS (cpS s))))))]) ?_ rfl
     have hv:=Zgp (s:=s) (by omega) f36
     rw [ZX hv f36,hv]
     all_goals rfl
    ·have f36:¬ (readE (aS (cpS s))≠0):=fun hh=>hh (ZbP e9)
     refine ZbJ (t:=(bS (cpS s))) hb0 (by omega) ?_
     refine⟨fun e10=> ?_,fun e10=> ?_⟩
     ·have f45:readE (bS (cpS s))≠0:=ZbO e10
      refine Eq.trans (b:= .tup [.agg [.d (.v (.bool z0.s)),.d (.v (.string z0.a)),.d (.v (.string z0.d))],.one (.d (.v (.int .i64 (readE (bS (cpS s))))))]) ?_ rfl
      have hv:=Zgo (s:=s) (by omega) (Classical.not_not.1 f36) f45
      rw [ZX hv f45,hv]
      all_goals rfl
     ·have f45:¬ (readE (bS (cpS s))≠0):=fun hh=>hh (ZbP e10)
      refine Zu (fun f49=> ?_) (fun f49=> ?_)
      ·refine⟨fun _=> ?_,fun e=>absurd e (by decide)⟩
       refine Eq.trans (b:= .tup [.agg [.d (.v (.bool z0.s)),.d (.v (.string z0.a)),.d (.v (.string z0.d))],.one (.d (.v (.int .i64 (12))))]) ?_ rfl
       have hv:=Zc4 (s:=s) (by omega) (Classical.not_not.1 f36) (Classical.not_not.1 f45) f49
       rw [ZX hv (by decide),hv]
       all_goals rfl
      ·refine⟨fun e=>absurd e (by decide),fun _=> ?_⟩
       refine ZfA (r:=⟨hpS s,readS (aS (cpS s)),readS (bS (cpS s))⟩) (p:=frQ s) ⟨Zar f49,rfl⟩ (RV.z_of (k:=4398046511104) (by omega) (by omega)) ?_
       refine Eq.trans (b:= .tup [.agg [.d (.v (.bool (cn (frQ s)).s)),.d (.v (.string (cn (frQ s)).a)),.d (.v (.string (cn (frQ s)).d))],.one (.d (.v (.int .i64 (0))))]) ?_ rfl
       have hv:=Zgq (s:=s) (by omega) (Classical.not_not.1 f36) (Classical.not_not.1 f45) f49
       rw [Zc3 hv,hv]
       all_goals rfl
   ·have f22:¬ (ixS (cpS s)≥0):=of_decide_eq_false e8
    have ha0:s=aS (cpS s):=hcp0.trans (if_neg f22).symm
    have hb0:(ByteArray.mk #[49])=bS (cpS s):=(if_neg f22).symm
    refine ZbJ (t:=(aS (cpS s))) ha0 (by omega) ?_
    refine⟨fun e11=> ?_,fun e11=> ?_⟩
    ·have f36:readE (aS (cpS s))≠0:=ZbO e11
     refine Eq.trans (b:= .tup [.agg [.d (.v (.bool z0.s)),.d (.v (.string z0.a)),.d (.v (.string z0.d))],.one (.d (.v (.int .i64 (readE (aS (cpS s))))))]) ?_ rfl
     have hv:=Zgp (s:=s) (by omega) f36
     rw [ZX hv f36,hv]
     all_goals rfl
    ·have f36:¬ (readE (aS (cpS s))≠0):=fun hh=>hh (ZbP e11)
     refine ZbJ (t:=(bS (cpS s))) hb0 (by omega) ?_
     refine⟨fun e12=> ?_,fun e12=> ?_⟩
     ·have f45:readE (bS (cpS s))≠0:=ZbO e12
      refine Eq.trans (b:= .tup [.agg [.d (.v (.bool z0.s)),.d (.v (.string z0.a)),.d (.v (.string z0.d))],.one (.d (.v (.int .i64 (readE (bS (cpS s))))))]) ?_ rfl
      have hv:=Zgo (s:=s) (by omega) (Classical.not_not.1 f36) f45
      rw [ZX hv f45,hv]
      all_goals rfl
     ·have f45:¬ (readE (bS (cpS s))≠0):=fun hh=>hh (ZbP e12)
      refine Zu (fun f49=> ?_) (fun f49=> ?_)
      ·refine⟨fun _=> ?_,fun e=>absurd e (by decide)⟩
       refine Eq.trans (b:= .tup [.agg [.d (.v (.bool z0.s)),.d (.v (.string z0.a)),.d (.v (.string z0.d))],.one (.d (.v (.int .i64 (12))))]) ?_ rfl
       have hv:=Zc4 (s:=s) (by omega) (Classical.not_not.1 f36) (Classical.not_not.1 f45) f49
       rw [ZX hv (by decide),hv]
       all_goals rfl
      ·refine⟨fun e=>absurd e (by decide),fun _=> ?_⟩
       refine ZfA (r:=⟨hpS s,readS (aS (cpS s)),readS (bS (cpS s))⟩) (p:=frQ s) ⟨Zar f49,rfl⟩ (RV.z_of (k:=4398046511104) (by omega) (by omega)) ?_
       refine Eq.trans (b:= .tup [.agg [.d (.v (.bool (cn (frQ s)).s)),.d (.v (.string (cn (frQ s)).a)),.d (.v (.string (cn (frQ s)).d))],.one (.d (.v (.int .i64 (0))))]) ?_ rfl
       have hv:=Zgq (s:=s) (by omega) (Classical.not_not.1 f36) (Classical.not_not.1 f45) f49
       rw [Zc3 hv,hv]
       all_goals rfl
theorem ZfL {q:Rat} {k:Nat} (h:(cn q).z≤k):(cn q).a.size≤k∧(cn q).d.size≤k:=by unfold RV.z at h;omega
theorem Zf2 (x:RV) (hx:x.z≤4398046511100):Spec Tryd.prog Tab 17 [rat x] (str (txR (cn x.q))):=by
 have hcn:(cn x.q).z≤4398046511110:=by rw [cn_z];have:=x.z1;omega
 have hcs:=ZfL hcn
 have hcs1:=hcs.1
 have hcs2:=hcs.2
 have hda:=ZbX (a:=(cn x.q).a) (by omega)
 have hdd:=ZbX (a:=(cn x.q).d) (by omega)
 refine Zap Tryd.func17 rfl rfl Tryd.ntmps17 rfl (by kernel_rfl) rfl rfl ?_
 refine ZjG (x:=x) (by omega) fun q5 h5 z5=> ?_
 subst h5
 refine use (Zbx (cn x.q).a (by omega)) rfl ?_
 refine⟨fun e1=> ?_,fun e1=> ?_⟩
 ·have f10:(cn x.q).s=true:=e1
  refine⟨_,⟨_,rfl,rfl,fun w=>strcat (by(try simp only [ByteArray.size_append]);have:=szm;have:=szs;omega) w⟩,?_⟩
  refine ZW (fun f15=> ?_) (fun f15=> ?_)
  ·refine⟨fun e=>absurd e (by decide),fun _=> ?_⟩
   refine Eq.trans (b:=str ((ByteArray.mk #[45])++(dec.dec (nv (cn x.q).a)))) ?_ rfl
   exact congrArg (fun s:ByteArray=>AV.val (.one (.d (.v (.string s))))) (by first|exact ZdI f10 f15|exact ZdJ f10 f15|exact ZdK f10 f15|exact ZdL f10 f15)
  ·refine⟨fun _=> ?_,fun e=>absurd e (by decide)⟩
   refine use (Zbx (cn x.q).d (by omega)) rfl ?_
   refine⟨_,⟨_,rfl,rfl,fun w=>strcat (by(try simp only [ByteArray.size_append]);have:=szm;have:=szs;omega) w⟩,?_⟩
   refine⟨_,⟨_,rfl,rfl,fun w=>strcat (by(try simp only [ByteArray.size_append]);have:=szm;have:=szs;omega) w⟩,?_⟩
   refine Eq.trans (b:=str (((ByteArray.mk #[45])++(dec.dec (nv (cn x.q).a)))++((ByteArray.mk #[47])++(dec.dec (nv (cn x.q).d))))) ?_ rfl
   exact congrArg (fun s:ByteArray=>AV.val (.one (.d (.v (.string s))))) (by first|exact ZdI f10 f15|exact ZdJ f10 f15|exact ZdK f10 f15|exact ZdL f10 f15)
 ·have f10:¬ ((cn x.q).s=true):=fun hh=>Bool.false_ne_true (e1.symm.trans hh)
  refine ZW (fun f15=> ?_) (fun f15=> ?_)
  ·refine⟨fun e=>absurd e (by decide),fun _=> ?_⟩
   refine Eq.trans (b:=str (dec.dec (nv (cn x.q).a))) ?_ rfl
   exact congrArg (fun s:ByteArray=>AV.val (.one (.d (.v (.string s))))) (by first|exact ZdI f10 f15|exact ZdJ f10 f15|exact ZdK f10 f15|exact ZdL f10 f15)
  ·refine⟨fun _=> ?_,fun e=>absurd e (by decide)⟩
   refine use (Zbx (cn x.q).d (by omega)) rfl ?_
   refine⟨_,⟨_,rfl,rfl,fun w=>strcat (by(try simp only [ByteArray.size_append]);have:=szm;have:=szs;omega) w⟩,?_⟩
   refine⟨_,⟨_,rfl,rfl,fun w=>strcat (by(try simp only [ByteArray.size_append]);have:=szm;have:=szs;omega) w⟩,?_⟩
   refine Eq.trans (b:=str ((dec.dec (nv (cn x.q).a))++((ByteArray.mk #[47])++(dec.dec (nv (cn x.q).d))))) ?_ rfl
   exact congrArg (fun s:ByteArray=>AV.val (.one (.d (.v (.string s))))) (by first|exact ZdI f10 f15|exact ZdJ f10 f15|exact ZdK f10 f15|exact ZdL f10 f15)
theorem Zdy {x:RV} (hx:x.z≤4398046511100) (k:K (str (txR (cn x.q)))):Ask 17 [rat x] K:=use (Zf2 x hx) rfl k
end
end Go.Proofs.YtpfemjpgbpnpkaaDoor.eng
