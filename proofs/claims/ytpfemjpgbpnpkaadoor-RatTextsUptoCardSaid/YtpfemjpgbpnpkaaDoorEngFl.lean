/- Contracts: rat.Floor, Down, Up; the functions of package nat that they call, by data. -/
import Derived.Test.YtpfemjpgbpnpkaaDoorEngU
namespace Go.Proofs.YtpfemjpgbpnpkaaDoor.eng
open Go.RowKit num mem seg q held ratA ratB ratC ratD ratE vars ratF natC natD natI
def str (s:ByteArray):AV:= .val (.one (.d (.v (.string s))))
section
variable {x y : RV} {K : AV → Prop} {a b : ByteArray} {n m : Nat}
theorem Zg3 (s:Bool) (n d:Nat) (hn:(enc n).size≤17592186044416) (hd:(enc d).size≤17592186044416) (h0:0< d):Spec Tryd.prog Tab 44 [bool s,str (enc n),str (enc d)] (rat (cn (mkRat (sg s n) d))):=by
 refine Zs (Zw Tryd.func44 rfl rfl) rfl rfl fun w hT=> ?_
 refine(Zdw s n d w hn hd h0 hT).mono fun e w' ⟨u,c,f,he,hi,hb⟩=> ?_
 obtain⟨rfl,rfl,rfl⟩:=Zi0 hi
 exact⟨he,hb⟩
theorem ZiD {s:Bool} (n d:Nat) (ha:a=enc n) (hb:b=enc d) (hn:(enc n).size≤17592186044416) (hd:(enc d).size≤17592186044416) (h0:0< d) (k:K (rat (cn (mkRat (sg s n) d)))):Ask 44 [bool s,str a,str b] K:=by
 subst ha hb
 exact use (Zg3 s n d hn hd h0) rfl k
theorem Zik (x:RV) (hx:x.z≤17592186044416):Spec Tryd.prog Tab 49 [rat x] (rat (cn x.q)):=by
 refine Zs (Zw Tryd.func49 rfl rfl) rfl rfl fun w hT=> ?_
 obtain⟨h1,h2⟩:=ZeC hx
 refine(ZdD x.s x.a x.d w h1 h2 hT).mono fun e w' ⟨u,c,f,he,hi,hb⟩=> ?_
 obtain⟨rfl,rfl,rfl⟩:=Zi0 hi
 exact⟨he,hb⟩
theorem ZjG (hx:x.z≤17592186044416) (k:∀ q,q=x.q→(cn q).z≤x.z+1→K (rat (cn q))):Ask 49 [rat x] K:=use (Zik x hx) rfl (k _ rfl (by have:=x.z1;rw [cn_z];omega))
theorem Zg0 (ox oy:Operand) (s t:ByteArray) (w:World):(do eqGuard .neq 9 ox oy (.string s) (.string t);binOp .neq 9 (.string s) (.string t):Sem Value).run Tryd.prog w= .ok (.bool (!decide (s=t))) w:=by
 by_cases H:s=t
 ·obtain rfl:=H;simp [go_sem]
 ·rw [decide_eq_false H];simp [go_sem,Zhz,H]
theorem Zhk (ox oy:Operand) (s t:ByteArray) (w:World):(do eqGuard .eql 9 ox oy (.string s) (.string t);binOp .eql 9 (.string s) (.string t):Sem Value).run Tryd.prog w= .ok (.bool (decide (s=t))) w:=by
 by_cases H:s=t
 ·obtain rfl:=H;simp [go_sem]
 ·rw [decide_eq_false H];simp [go_sem,Zhz,H]
theorem ZW {ox oy:Operand} {s t:ByteArray} (k1:s=t→K (bool false)) (k0:¬ s=t→K (bool true)):AskB .neq 9 ox oy (.string s) (.string t) K:=by
 by_cases H:s=t
 ·exact useB (fun w=>by have:=Zg0 ox oy s t w;rw [decide_eq_true H] at this;exact this) (k1 H)
 ·exact useB (fun w=>by have:=Zg0 ox oy s t w;rw [decide_eq_false H] at this;exact this) (k0 H)
theorem Zu {ox oy:Operand} {s t:ByteArray} (k1:s=t→K (bool true)) (k0:¬ s=t→K (bool false)):AskB .eql 9 ox oy (.string s) (.string t) K:=by
 by_cases H:s=t
 ·exact useB (fun w=>by have:=Zhk ox oy s t w;rw [decide_eq_true H] at this;exact this) (k1 H)
 ·exact useB (fun w=>by have:=Zhk ox oy s t w;rw [decide_eq_false H] at this;exact this) (k0 H)
theorem ZaD {n:Nat}:enc n=⟨#[]⟩↔n=0:=by
 constructor
 ·intro h
  have:=Zc n
  rw [h] at this
  rw [← this];exact Zbw
 ·intro h;subst h;exact Zy
end
end Go.Proofs.YtpfemjpgbpnpkaaDoor.eng
