/- Walks: nat.trim, nat.short, nat.fromShort. -/
import Derived.Test.YtjhoddlhdoiifaaGreatDoorProg
import Derived.Test.YtjhoddlhdoiifaaGreatDoorGrpB
namespace Go.Proofs.YtjhoddlhdoiifaaGreatDoor.natA
open Go.RowKit num mem

theorem trim_any (s : ByteArray) (w : World) :
    Calls Tryz.prog 186 #[.string s] w fun e w' => e = .returned (.string (enc (nv s))) ∧ w = w' := by
  go_enter Tryz.func186, Tryz.ntmps186
  go_wp2
  go_loop [0] (fun a => ∃ t : ByteArray, a = .string t ∧ nv t = nv s) (fun a => strSize a)
  case atStart => exact ⟨s, rfl, rfl⟩
  case round =>
    obtain ⟨t, rfl, hn⟩ := hrel
    have H := Lib.hid hn
    clear hn
    go_wp2
    · go_round
      case rel => exact ⟨_, rfl, (nv_cut t (by assumption) (by assumption)).trans H.out⟩
      case measure => simp [strSize]; omega
    · go_ret
      exact ⟨ret_string (by rw [← H.out, nv_stop t (by assumption) (by assumption)]), rfl⟩
    · go_ret
      exact ⟨ret_string (by rw [← H.out, nv_empty t (by assumption)]), rfl⟩

theorem short_step (s : ByteArray) (k : Nat) (hk : k < s.size) (hs : s.size ≤ 8) :
    bits .or .u64 ((nvl (s.data.toList.take k) : Int) * 256) (IntKind.u64.wrap ((s[k].toNat : Nat) : Int)) = ((nvl (s.data.toList.take (k + 1)) : Nat) : Int) := by
  have h7 := nvl_take_le7 s k (by omega)
  have hc := (s[k]).toNat_lt
  have := u64_or_shift 8 (nvl (s.data.toList.take k)) (s[k].toNat) (by simpa using hc) (by omega)
  rw [nv_take_snoc s k hk, IntWalk.u64_in _ (by omega)]
  simpa using this

theorem short_any (s : ByteArray) (w : World) (hs : s.size ≤ 8) :
    Calls Tryz.prog 187 #[.string s] w fun e w' => e = .returned (.int .u64 (nv s)) ∧ w = w' := by
  go_enter Tryz.func187, Tryz.ntmps187
  go_wp2
  go_loop [3, 4, 7] (fun n _ i => ∃ k : Nat, k ≤ s.size ∧ i = .int .i64 k ∧ n = .int .u64 (nvl (s.data.toList.take k))) (fun _ _ i => s.size - (intOf i).toNat)
  case atStart => exact ⟨0, Nat.zero_le _, rfl, rfl⟩
  case round =>
    obtain ⟨k, hk, rfl, rfl⟩ := hrel
    by_cases hlt : k < s.size
    · have h7 := nvl_take_le7 s k (by omega)
      go_wp2
      go_round
      case rel => exact ⟨k + 1, by omega, by go_num, by rw [← short_step s k hlt hs]⟩
      case measure => simp [intOf]; omega
    · go_wp2
      go_ret
      exact ⟨ret_int (congrArg Int.ofNat (nv_take_all s k (by omega))), rfl⟩

theorem conv8 (w : World) (T : TypeId) (a0 a1 a2 a3 a4 a5 a6 a7 : Int) :
    (convert 211 9 (.slice (some { block := w.heap.size, off := 0 }) 8 8)).run Tryz.prog (w.alloc (.cells #[.int .u8 a0, .int .u8 a1, .int .u8 a2, .int .u8 a3, .int .u8 a4, .int .u8 a5, .int .u8 a6, .int .u8 a7] T)) =
      .ok (.string (strOfNums [a0, a1, a2, a3, a4, a5, a6, a7])) (w.alloc (.cells #[.int .u8 a0, .int .u8 a1, .int .u8 a2, .int .u8 a3, .int .u8 a4, .int .u8 a5, .int .u8 a6, .int .u8 a7] T)) := by
  refine run_convert_bytes_arg _ _ 5 Tryz.underlying211 Tryz.underlying5 w.heap.size 0 8 8 _ rfl ?_ _ Tryz.underlying9
  intro i hi
  have := (Row.alloc_new w T [.int .u8 a0, .int .u8 a1, .int .u8 a2, .int .u8 a3, .int .u8 a4, .int .u8 a5, .int .u8 a6, .int .u8 a7]).cell? (0 + i)
  rw [this]
  match i, hi with
  | 0, _ => rfl
  | 1, _ => rfl
  | 2, _ => rfl
  | 3, _ => rfl
  | 4, _ => rfl
  | 5, _ => rfl
  | 6, _ => rfl
  | 7, _ => rfl

theorem nv_eight (n : Nat) (hn : n < 2 ^ 64) : nv (strOfNums [(n : Int) / 72057594037927936 % 256, (n : Int) / 281474976710656 % 256, (n : Int) / 1099511627776 % 256, (n : Int) / 4294967296 % 256, (n : Int) / 16777216 % 256, (n : Int) / 65536 % 256, (n : Int) / 256 % 256, (n : Int) % 256]) = n := by
  have b : ∀ k : Nat, (UInt8.ofNat (((n : Int) / (k : Int) % 256).toNat)).toNat = n / k % 256 := fun k => by
    rw [show ((n : Int) / (k : Int) % 256).toNat = n / k % 256 by omega]
    simp
  have b1 : (UInt8.ofNat (((n : Int) % 256).toNat)).toNat = n % 256 := by
    rw [show ((n : Int) % 256).toNat = n % 256 by omega]
    simp
  have e1 := b 72057594037927936
  have e2 := b 281474976710656
  have e3 := b 1099511627776
  have e4 := b 4294967296
  have e5 := b 16777216
  have e6 := b 65536
  have e7 := b 256
  simp only [Int.cast_ofNat_Int] at e1 e2 e3 e4 e5 e6 e7
  simp only [nv, strOfNums_data, List.map_cons, List.map_nil, nvl, List.foldl_cons, List.foldl_nil, e1, e2, e3, e4, e5, e6, e7, b1]
  omega

set_option maxRecDepth 100000 in
theorem fromShort_any (n : Nat) (w : World) (hn : n < 2 ^ 64) :
    Calls Tryz.prog 185 #[.int .u64 n] w fun e w' => e = .returned (.string (enc n)) ∧ Below w.heap.size w w' := by
  have H := Lib.hid (nv_eight n hn)
  clear hn
  go_enter Tryz.func185, Tryz.ntmps185
  go_wp2
  refine wp_loop_rounds 9 ?_
  iterate 9 (rw [rounds_succ]; go_wp2_with fail)
  rw [conv8]
  go_wp2_with (first | (go_at_call 186; refine (trim_any _ _).mono ?_; rintro e w' ⟨rfl, rfl⟩))
  go_ret
  exact ⟨ret_string (by rw [H.out]), (Below.refl _ _).alloc (Nat.le_refl _) _⟩

end Go.Proofs.YtjhoddlhdoiifaaGreatDoor.natA
