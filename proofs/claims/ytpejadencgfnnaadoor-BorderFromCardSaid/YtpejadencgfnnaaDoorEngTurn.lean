/- Contracts: package turn; gantref1's turns. Printed by wip/gen_et.py. -/
import Derived.Test.YtpejadencgfnnaaDoorEngU
import Derived.Test.YtpejadencgfnnaaDoorTrq
namespace Go.Proofs.YtpejadencgfnnaaDoor.eng
open Go.RowKit num mem seg q held ratA ratB ratC ratD ratE vars ratF trq
section
variable {x y : RV} {h g : Bool} {K : AV → Prop}

theorem qs_0 : qs ((0 : Int) : Rat) ≤ 8 := qs_i64 (by decide) (by decide)
theorem rMake_spec (n m : Int) (h1 : -9223372036854775808 ≤ n) (h2 : n ≤ 9223372036854775807) (h3 : -9223372036854775808 ≤ m) (h4 : m ≤ 9223372036854775807) : Spec Tryd.prog Tab 13 [int n, int m] (two (rat (quotR (n : Rat) (m : Rat))) (int (quotE (m : Rat)))) := by
  refine spec_calls (enters_of Tryd.func13 rfl rfl) rfl rfl fun w hT => ?_
  refine (rMake_any n m w h1 h2 h3 h4 hT).mono fun e w' ⟨u, c, f, k, he, hi, hb⟩ => ?_
  refine ⟨he.trans ?_, hb⟩
  rcases hi with ⟨h5, rfl, rfl, rfl, rfl⟩ | ⟨h5, rfl, hi⟩
  · simp only [quotR, quotE, if_pos h5, z0]
  · obtain ⟨rfl, rfl, rfl⟩ := is_cn hi
    simp only [quotR, quotE, if_neg h5]
theorem k_make (n m : Int) (h1 : -9223372036854775808 ≤ n) (h2 : n ≤ 9223372036854775807) (h3 : -9223372036854775808 ≤ m) (h4 : m ≤ 9223372036854775807) (h0 : (m : Rat) ≠ 0) (k : ∀ q, q = (n : Rat) / (m : Rat) → (cn q).z ≤ 17 → K (two (rat (cn q)) (int 0))) : Ask 13 [int n, int m] K :=
  use (by have := rMake_spec n m h1 h2 h3 h4; simp only [quotR, quotE, if_neg h0] at this; exact this) rfl (k _ rfl (by have := qs_div (n : Rat) (m : Rat); have := qs_i64 h1 h2; have := qs_i64 h3 h4; rw [cn_z]; omega))
theorem ratBegun_spec : Spec Tryd.prog Tab 25 [] (bool true) :=
  spec_calls (enters_of Tryd.func25 rfl rfl) rfl rfl fun w hT => ratBegun_any w hT
theorem k_ratBegun (K1 : K (bool true)) : Ask 25 [] K := use ratBegun_spec rfl K1
set_option maxRecDepth 100000 in
theorem num_spec (n m : Int) (h1 : -9223372036854775808 ≤ n) (h2 : n ≤ 9223372036854775807) (h3 : -9223372036854775808 ≤ m) (h4 : m ≤ 9223372036854775807) (hm : (m : Rat) ≠ 0) : Spec Tryd.prog Tab 9 [int n, int m] (rat (cn ((n : Rat) / (m : Rat)))) := by
  refine fn_spec Tryd.func9 rfl rfl Tryd.ntmps9 rfl (by kernel_rfl) rfl rfl ?_
  refine k_make _ _ (by omega) (by omega) (by omega) (by omega) hm fun q1 h1 z1 => ?_
  refine Eq.trans (b := rat (cn _)) ?_ rfl
  subst_vars; rfl
theorem k_num (n m : Int) (h1 : -9223372036854775808 ≤ n) (h2 : n ≤ 9223372036854775807) (h3 : -9223372036854775808 ≤ m) (h4 : m ≤ 9223372036854775807) (h0 : (m : Rat) ≠ 0) (k : ∀ q, q = (n : Rat) / (m : Rat) → (cn q).z ≤ 17 → K (rat (cn q))) : Ask 9 [int n, int m] K :=
  use (num_spec n m h1 h2 h3 h4 h0) rfl (k _ rfl (by have := qs_div (n : Rat) (m : Rat); have := qs_i64 h1 h2; have := qs_i64 h3 h4; rw [cn_z]; omega))
end
end Go.Proofs.YtpejadencgfnnaaDoor.eng
