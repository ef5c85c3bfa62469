/- The fields of a word, packed and cut: field and of by their numbers. Condition: the numbers fit their kinds. -/
import Derived.Test.YtlipnaninocfhaaProg
import Derived.WalkKit
import Derived.WalkSpells
import Derived.WalkLawsBesides
import Derived.Handy
import Derived.Lib.Hide
import Derived.Lib.BitFns
import Derived.Deep.QuietTactic
import Derived.BigQuiet
namespace Go.Proofs.Ytlipnaninocfhaa
open Go.RowKit
set_option linter.unusedVariables false

theorem ret_int {k : IntKind} {a b : Int} (h : a = b) : Ending.returned (.int k a) = .returned (.int k b) := by rw [h]
theorem ret_bool {a b : Bool} (h : a = b) : Ending.returned (.bool a) = .returned (.bool b) := by rw [h]

/-- a mask of the lowest m bits -/
theorem and_mask (x : Int) (m : Nat) (M : Int) (h0 : 0 ≤ x) (h1 : x < 18446744073709551616) (hM : M = ((2 ^ m - 1 : Nat) : Int)) (hm : m ≤ 64) : bits .and .u64 x M = x % ((2 ^ m : Nat) : Int) := by
  have hp : 2 ^ m ≤ 2 ^ 64 := Nat.pow_le_pow_right (by omega) hm
  have hq : 0 < 2 ^ m := Nat.pow_pos (by omega)
  rw [u64_and x M h0 h1 (by omega) (by omega), hM, Int.toNat_natCast, Nat.and_two_pow_sub_one_eq_mod, Int.natCast_emod, Int.toNat_of_nonneg h0]
/-- low bits beside high ones -/
theorem or_add (x y : Int) (i : Nat) (hx0 : 0 ≤ x) (hx1 : x < ((2 ^ i : Nat) : Int)) (hy0 : 0 ≤ y) (hy1 : y < 18446744073709551616) (hi : i ≤ 64) (hy : y % ((2 ^ i : Nat) : Int) = 0) : bits .or .u64 x y = x + y := by
  have hp : 2 ^ i ≤ 2 ^ 64 := Nat.pow_le_pow_right (by omega) hi
  have hz : ((y.toNat % 2 ^ i : Nat) : Int) = 0 := by rw [Int.natCast_emod, Int.toNat_of_nonneg hy0]; exact hy
  rw [u64_or x y hx0 (by omega) hy0 hy1, Nat.or_comm, nat_join i y.toNat x.toNat (by omega) (by omega)]
  omega
theorem or_low_high (x y : Nat) (i : Nat) (hx : x < 2 ^ i) (hy : y % 2 ^ i = 0) : x ||| y = x + y := by
  rw [Nat.or_comm, nat_join i y x hy hx]; omega
set_option maxHeartbeats 400000 in
theorem fi_0_24 (n : Int) (w : World) (h1 : -9223372036854775808 ≤ n) (h2 : n ≤ 9223372036854775807) :
    Calls Try.prog 28 #[.int .i64 n, .int .i64 0, .int .i64 24] w fun e w' => e = .returned (.int .u64 (n % 16777216 * 1)) ∧ w' = w := by
  have e := and_mask (IntKind.u64.wrap n) 24 16777215 (by rw [IntKind.wrap_u64]; omega) (by rw [IntKind.wrap_u64]; omega) (by decide) (by omega)
  rw [IntKind.wrap_u64] at e
  have HE := Lib.hid e
  clear e
  go_enter Try.func28, Try.ntmps28
  go_wp2
  go_ret
  refine ⟨ret_int ?_, rfl⟩
  simp only [IntKind.wrap_u64]
  first | rw [HE.out] | rw [show n = n % 18446744073709551616 by omega, HE.out]
  simp only [show ((2 ^ 24 : Nat) : Int) = 16777216 by decide]
  omega
set_option maxHeartbeats 400000 in
theorem fi_0_2 (n : Int) (w : World) (h1 : -9223372036854775808 ≤ n) (h2 : n ≤ 9223372036854775807) :
    Calls Try.prog 28 #[.int .i64 n, .int .i64 0, .int .i64 2] w fun e w' => e = .returned (.int .u64 (n % 4 * 1)) ∧ w' = w := by
  have e := and_mask (IntKind.u64.wrap n) 2 3 (by rw [IntKind.wrap_u64]; omega) (by rw [IntKind.wrap_u64]; omega) (by decide) (by omega)
  rw [IntKind.wrap_u64] at e
  have HE := Lib.hid e
  clear e
  go_enter Try.func28, Try.ntmps28
  go_wp2
  go_ret
  refine ⟨ret_int ?_, rfl⟩
  simp only [IntKind.wrap_u64]
  first | rw [HE.out] | rw [show n = n % 18446744073709551616 by omega, HE.out]
  simp only [show ((2 ^ 2 : Nat) : Int) = 4 by decide]
  omega
set_option maxHeartbeats 400000 in
theorem fi_2_16 (n : Int) (w : World) (h1 : -9223372036854775808 ≤ n) (h2 : n ≤ 9223372036854775807) :
    Calls Try.prog 28 #[.int .i64 n, .int .i64 2, .int .i64 16] w fun e w' => e = .returned (.int .u64 (n % 65536 * 4)) ∧ w' = w := by
  have e := and_mask (IntKind.u64.wrap n) 16 65535 (by rw [IntKind.wrap_u64]; omega) (by rw [IntKind.wrap_u64]; omega) (by decide) (by omega)
  rw [IntKind.wrap_u64] at e
  have HE := Lib.hid e
  clear e
  go_enter Try.func28, Try.ntmps28
  go_wp2
  go_ret
  refine ⟨ret_int ?_, rfl⟩
  simp only [IntKind.wrap_u64]
  first | rw [HE.out] | rw [show n = n % 18446744073709551616 by omega, HE.out]
  simp only [show ((2 ^ 16 : Nat) : Int) = 65536 by decide]
  omega
set_option maxHeartbeats 400000 in
theorem fi_18_12 (n : Int) (w : World) (h1 : -9223372036854775808 ≤ n) (h2 : n ≤ 9223372036854775807) :
    Calls Try.prog 28 #[.int .i64 n, .int .i64 18, .int .i64 12] w fun e w' => e = .returned (.int .u64 (n % 4096 * 262144)) ∧ w' = w := by
  have e := and_mask (IntKind.u64.wrap n) 12 4095 (by rw [IntKind.wrap_u64]; omega) (by rw [IntKind.wrap_u64]; omega) (by decide) (by omega)
  rw [IntKind.wrap_u64] at e
  have HE := Lib.hid e
  clear e
  go_enter Try.func28, Try.ntmps28
  go_wp2
  go_ret
  refine ⟨ret_int ?_, rfl⟩
  simp only [IntKind.wrap_u64]
  first | rw [HE.out] | rw [show n = n % 18446744073709551616 by omega, HE.out]
  simp only [show ((2 ^ 12 : Nat) : Int) = 4096 by decide]
  omega
set_option maxHeartbeats 400000 in
theorem fi_0_3 (n : Int) (w : World) (h1 : -9223372036854775808 ≤ n) (h2 : n ≤ 9223372036854775807) :
    Calls Try.prog 28 #[.int .i64 n, .int .i64 0, .int .i64 3] w fun e w' => e = .returned (.int .u64 (n % 8 * 1)) ∧ w' = w := by
  have e := and_mask (IntKind.u64.wrap n) 3 7 (by rw [IntKind.wrap_u64]; omega) (by rw [IntKind.wrap_u64]; omega) (by decide) (by omega)
  rw [IntKind.wrap_u64] at e
  have HE := Lib.hid e
  clear e
  go_enter Try.func28, Try.ntmps28
  go_wp2
  go_ret
  refine ⟨ret_int ?_, rfl⟩
  simp only [IntKind.wrap_u64]
  first | rw [HE.out] | rw [show n = n % 18446744073709551616 by omega, HE.out]
  simp only [show ((2 ^ 3 : Nat) : Int) = 8 by decide]
  omega
set_option maxHeartbeats 400000 in
theorem fi_3_10 (n : Int) (w : World) (h1 : -9223372036854775808 ≤ n) (h2 : n ≤ 9223372036854775807) :
    Calls Try.prog 28 #[.int .i64 n, .int .i64 3, .int .i64 10] w fun e w' => e = .returned (.int .u64 (n % 1024 * 8)) ∧ w' = w := by
  have e := and_mask (IntKind.u64.wrap n) 10 1023 (by rw [IntKind.wrap_u64]; omega) (by rw [IntKind.wrap_u64]; omega) (by decide) (by omega)
  rw [IntKind.wrap_u64] at e
  have HE := Lib.hid e
  clear e
  go_enter Try.func28, Try.ntmps28
  go_wp2
  go_ret
  refine ⟨ret_int ?_, rfl⟩
  simp only [IntKind.wrap_u64]
  first | rw [HE.out] | rw [show n = n % 18446744073709551616 by omega, HE.out]
  simp only [show ((2 ^ 10 : Nat) : Int) = 1024 by decide]
  omega
set_option maxHeartbeats 400000 in
theorem fi_13_2 (n : Int) (w : World) (h1 : -9223372036854775808 ≤ n) (h2 : n ≤ 9223372036854775807) :
    Calls Try.prog 28 #[.int .i64 n, .int .i64 13, .int .i64 2] w fun e w' => e = .returned (.int .u64 (n % 4 * 8192)) ∧ w' = w := by
  have e := and_mask (IntKind.u64.wrap n) 2 3 (by rw [IntKind.wrap_u64]; omega) (by rw [IntKind.wrap_u64]; omega) (by decide) (by omega)
  rw [IntKind.wrap_u64] at e
  have HE := Lib.hid e
  clear e
  go_enter Try.func28, Try.ntmps28
  go_wp2
  go_ret
  refine ⟨ret_int ?_, rfl⟩
  simp only [IntKind.wrap_u64]
  first | rw [HE.out] | rw [show n = n % 18446744073709551616 by omega, HE.out]
  simp only [show ((2 ^ 2 : Nat) : Int) = 4 by decide]
  omega
set_option maxHeartbeats 400000 in
theorem fi_16_7 (n : Int) (w : World) (h1 : -9223372036854775808 ≤ n) (h2 : n ≤ 9223372036854775807) :
    Calls Try.prog 28 #[.int .i64 n, .int .i64 16, .int .i64 7] w fun e w' => e = .returned (.int .u64 (n % 128 * 65536)) ∧ w' = w := by
  have e := and_mask (IntKind.u64.wrap n) 7 127 (by rw [IntKind.wrap_u64]; omega) (by rw [IntKind.wrap_u64]; omega) (by decide) (by omega)
  rw [IntKind.wrap_u64] at e
  have HE := Lib.hid e
  clear e
  go_enter Try.func28, Try.ntmps28
  go_wp2
  go_ret
  refine ⟨ret_int ?_, rfl⟩
  simp only [IntKind.wrap_u64]
  first | rw [HE.out] | rw [show n = n % 18446744073709551616 by omega, HE.out]
  simp only [show ((2 ^ 7 : Nat) : Int) = 128 by decide]
  omega
set_option maxHeartbeats 400000 in
theorem fi_8_3 (n : Int) (w : World) (h1 : -9223372036854775808 ≤ n) (h2 : n ≤ 9223372036854775807) :
    Calls Try.prog 28 #[.int .i64 n, .int .i64 8, .int .i64 3] w fun e w' => e = .returned (.int .u64 (n % 8 * 256)) ∧ w' = w := by
  have e := and_mask (IntKind.u64.wrap n) 3 7 (by rw [IntKind.wrap_u64]; omega) (by rw [IntKind.wrap_u64]; omega) (by decide) (by omega)
  rw [IntKind.wrap_u64] at e
  have HE := Lib.hid e
  clear e
  go_enter Try.func28, Try.ntmps28
  go_wp2
  go_ret
  refine ⟨ret_int ?_, rfl⟩
  simp only [IntKind.wrap_u64]
  first | rw [HE.out] | rw [show n = n % 18446744073709551616 by omega, HE.out]
  simp only [show ((2 ^ 3 : Nat) : Int) = 8 by decide]
  omega
set_option maxHeartbeats 400000 in
theorem fv_32_32 (n : Int) (w : World) (h1 : 0 ≤ n) (h2 : n ≤ 4294967295) :
    Calls Try.prog 29 #[.int .u32 n, .int .i64 32, .int .i64 32] w fun e w' => e = .returned (.int .u64 (n % 4294967296 * 4294967296)) ∧ w' = w := by
  have e := and_mask (IntKind.u64.wrap n) 32 4294967295 (by rw [IntKind.wrap_u64]; omega) (by rw [IntKind.wrap_u64]; omega) (by decide) (by omega)
  rw [IntKind.wrap_u64] at e
  have HE := Lib.hid e
  clear e
  go_enter Try.func29, Try.ntmps29
  go_wp2
  go_ret
  refine ⟨ret_int ?_, rfl⟩
  simp only [IntKind.wrap_u64]
  first | rw [HE.out] | rw [show n = n % 18446744073709551616 by omega, HE.out]
  simp only [show ((2 ^ 32 : Nat) : Int) = 4294967296 by decide]
  omega
set_option maxHeartbeats 400000 in
theorem fb_0_8 (n : Int) (w : World) (h1 : 0 ≤ n) (h2 : n ≤ 255) :
    Calls Try.prog 32 #[.int .u8 n, .int .i64 0, .int .i64 8] w fun e w' => e = .returned (.int .u64 (n % 256 * 1)) ∧ w' = w := by
  have e := and_mask (IntKind.u64.wrap n) 8 255 (by rw [IntKind.wrap_u64]; omega) (by rw [IntKind.wrap_u64]; omega) (by decide) (by omega)
  rw [IntKind.wrap_u64] at e
  have HE := Lib.hid e
  clear e
  go_enter Try.func32, Try.ntmps32
  go_wp2
  go_ret
  refine ⟨ret_int ?_, rfl⟩
  simp only [IntKind.wrap_u64]
  first | rw [HE.out] | rw [show n = n % 18446744073709551616 by omega, HE.out]
  simp only [show ((2 ^ 8 : Nat) : Int) = 256 by decide]
  omega
set_option maxHeartbeats 400000 in
theorem oi_0_24 (n : Int) (w : World) (h1 : 0 ≤ n) (h2 : n ≤ 18446744073709551615) :
    Calls Try.prog 34 #[.int .u64 n, .int .i64 0, .int .i64 24] w fun e w' => e = .returned (.int .i64 (n / 1 % 16777216)) ∧ ∃ k, w' = w.drewN k := by
  have e := and_mask (n / 1) 24 16777215 (by omega) (by omega) (by decide) (by omega)
  have HE := Lib.hid e
  clear e
  go_enter Try.func34, Try.ntmps34
  go_wp2
  go_quiet (fail)
  go_wp2
  go_ret
  refine ⟨ret_int ?_, _, rfl⟩
  have e := HE.out
  simp only [show ((2 ^ 24 : Nat) : Int) = 16777216 by decide, Int.ediv_one] at e
  simp only [e, wrap64]
  omega
set_option maxHeartbeats 400000 in
theorem oi_24_1 (n : Int) (w : World) (h1 : 0 ≤ n) (h2 : n ≤ 18446744073709551615) :
    Calls Try.prog 34 #[.int .u64 n, .int .i64 24, .int .i64 1] w fun e w' => e = .returned (.int .i64 (n / 16777216 % 2)) ∧ ∃ k, w' = w.drewN k := by
  have e := and_mask (n / 16777216) 1 1 (by omega) (by omega) (by decide) (by omega)
  have HE := Lib.hid e
  clear e
  go_enter Try.func34, Try.ntmps34
  go_wp2
  go_quiet (fail)
  go_wp2
  go_ret
  refine ⟨ret_int ?_, _, rfl⟩
  have e := HE.out
  simp only [show ((2 ^ 1 : Nat) : Int) = 2 by decide] at e
  simp only [e, wrap64]
  omega
set_option maxHeartbeats 400000 in
theorem oi_0_2 (n : Int) (w : World) (h1 : 0 ≤ n) (h2 : n ≤ 18446744073709551615) :
    Calls Try.prog 34 #[.int .u64 n, .int .i64 0, .int .i64 2] w fun e w' => e = .returned (.int .i64 (n / 1 % 4)) ∧ ∃ k, w' = w.drewN k := by
  have e := and_mask (n / 1) 2 3 (by omega) (by omega) (by decide) (by omega)
  have HE := Lib.hid e
  clear e
  go_enter Try.func34, Try.ntmps34
  go_wp2
  go_quiet (fail)
  go_wp2
  go_ret
  refine ⟨ret_int ?_, _, rfl⟩
  have e := HE.out
  simp only [show ((2 ^ 2 : Nat) : Int) = 4 by decide, Int.ediv_one] at e
  simp only [e, wrap64]
  omega
set_option maxHeartbeats 400000 in
theorem oi_2_16 (n : Int) (w : World) (h1 : 0 ≤ n) (h2 : n ≤ 18446744073709551615) :
    Calls Try.prog 34 #[.int .u64 n, .int .i64 2, .int .i64 16] w fun e w' => e = .returned (.int .i64 (n / 4 % 65536)) ∧ ∃ k, w' = w.drewN k := by
  have e := and_mask (n / 4) 16 65535 (by omega) (by omega) (by decide) (by omega)
  have HE := Lib.hid e
  clear e
  go_enter Try.func34, Try.ntmps34
  go_wp2
  go_quiet (fail)
  go_wp2
  go_ret
  refine ⟨ret_int ?_, _, rfl⟩
  have e := HE.out
  simp only [show ((2 ^ 16 : Nat) : Int) = 65536 by decide] at e
  simp only [e, wrap64]
  omega
set_option maxHeartbeats 400000 in
theorem oi_18_12 (n : Int) (w : World) (h1 : 0 ≤ n) (h2 : n ≤ 18446744073709551615) :
    Calls Try.prog 34 #[.int .u64 n, .int .i64 18, .int .i64 12] w fun e w' => e = .returned (.int .i64 (n / 262144 % 4096)) ∧ ∃ k, w' = w.drewN k := by
  have e := and_mask (n / 262144) 12 4095 (by omega) (by omega) (by decide) (by omega)
  have HE := Lib.hid e
  clear e
  go_enter Try.func34, Try.ntmps34
  go_wp2
  go_quiet (fail)
  go_wp2
  go_ret
  refine ⟨ret_int ?_, _, rfl⟩
  have e := HE.out
  simp only [show ((2 ^ 12 : Nat) : Int) = 4096 by decide] at e
  simp only [e, wrap64]
  omega
set_option maxHeartbeats 400000 in
theorem oi_0_3 (n : Int) (w : World) (h1 : 0 ≤ n) (h2 : n ≤ 18446744073709551615) :
    Calls Try.prog 34 #[.int .u64 n, .int .i64 0, .int .i64 3] w fun e w' => e = .returned (.int .i64 (n / 1 % 8)) ∧ ∃ k, w' = w.drewN k := by
  have e := and_mask (n / 1) 3 7 (by omega) (by omega) (by decide) (by omega)
  have HE := Lib.hid e
  clear e
  go_enter Try.func34, Try.ntmps34
  go_wp2
  go_quiet (fail)
  go_wp2
  go_ret
  refine ⟨ret_int ?_, _, rfl⟩
  have e := HE.out
  simp only [show ((2 ^ 3 : Nat) : Int) = 8 by decide, Int.ediv_one] at e
  simp only [e, wrap64]
  omega
set_option maxHeartbeats 400000 in
theorem oi_3_10 (n : Int) (w : World) (h1 : 0 ≤ n) (h2 : n ≤ 18446744073709551615) :
    Calls Try.prog 34 #[.int .u64 n, .int .i64 3, .int .i64 10] w fun e w' => e = .returned (.int .i64 (n / 8 % 1024)) ∧ ∃ k, w' = w.drewN k := by
  have e := and_mask (n / 8) 10 1023 (by omega) (by omega) (by decide) (by omega)
  have HE := Lib.hid e
  clear e
  go_enter Try.func34, Try.ntmps34
  go_wp2
  go_quiet (fail)
  go_wp2
  go_ret
  refine ⟨ret_int ?_, _, rfl⟩
  have e := HE.out
  simp only [show ((2 ^ 10 : Nat) : Int) = 1024 by decide] at e
  simp only [e, wrap64]
  omega
set_option maxHeartbeats 400000 in
theorem oi_13_2 (n : Int) (w : World) (h1 : 0 ≤ n) (h2 : n ≤ 18446744073709551615) :
    Calls Try.prog 34 #[.int .u64 n, .int .i64 13, .int .i64 2] w fun e w' => e = .returned (.int .i64 (n / 8192 % 4)) ∧ ∃ k, w' = w.drewN k := by
  have e := and_mask (n / 8192) 2 3 (by omega) (by omega) (by decide) (by omega)
  have HE := Lib.hid e
  clear e
  go_enter Try.func34, Try.ntmps34
  go_wp2
  go_quiet (fail)
  go_wp2
  go_ret
  refine ⟨ret_int ?_, _, rfl⟩
  have e := HE.out
  simp only [show ((2 ^ 2 : Nat) : Int) = 4 by decide] at e
  simp only [e, wrap64]
  omega
set_option maxHeartbeats 400000 in
theorem oi_16_7 (n : Int) (w : World) (h1 : 0 ≤ n) (h2 : n ≤ 18446744073709551615) :
    Calls Try.prog 34 #[.int .u64 n, .int .i64 16, .int .i64 7] w fun e w' => e = .returned (.int .i64 (n / 65536 % 128)) ∧ ∃ k, w' = w.drewN k := by
  have e := and_mask (n / 65536) 7 127 (by omega) (by omega) (by decide) (by omega)
  have HE := Lib.hid e
  clear e
  go_enter Try.func34, Try.ntmps34
  go_wp2
  go_quiet (fail)
  go_wp2
  go_ret
  refine ⟨ret_int ?_, _, rfl⟩
  have e := HE.out
  simp only [show ((2 ^ 7 : Nat) : Int) = 128 by decide] at e
  simp only [e, wrap64]
  omega
set_option maxHeartbeats 400000 in
theorem oi_8_3 (n : Int) (w : World) (h1 : 0 ≤ n) (h2 : n ≤ 18446744073709551615) :
    Calls Try.prog 34 #[.int .u64 n, .int .i64 8, .int .i64 3] w fun e w' => e = .returned (.int .i64 (n / 256 % 8)) ∧ ∃ k, w' = w.drewN k := by
  have e := and_mask (n / 256) 3 7 (by omega) (by omega) (by decide) (by omega)
  have HE := Lib.hid e
  clear e
  go_enter Try.func34, Try.ntmps34
  go_wp2
  go_quiet (fail)
  go_wp2
  go_ret
  refine ⟨ret_int ?_, _, rfl⟩
  have e := HE.out
  simp only [show ((2 ^ 3 : Nat) : Int) = 8 by decide] at e
  simp only [e, wrap64]
  omega
set_option maxHeartbeats 400000 in
theorem ov_32_32 (n : Int) (w : World) (h1 : 0 ≤ n) (h2 : n ≤ 18446744073709551615) :
    Calls Try.prog 35 #[.int .u64 n, .int .i64 32, .int .i64 32] w fun e w' => e = .returned (.int .u32 (n / 4294967296 % 4294967296)) ∧ ∃ k, w' = w.drewN k := by
  have e := and_mask (n / 4294967296) 32 4294967295 (by omega) (by omega) (by decide) (by omega)
  have HE := Lib.hid e
  clear e
  go_enter Try.func35, Try.ntmps35
  go_wp2
  go_quiet (fail)
  go_wp2
  go_ret
  refine ⟨ret_int ?_, _, rfl⟩
  have e := HE.out
  simp only [show ((2 ^ 32 : Nat) : Int) = 4294967296 by decide] at e
  simp only [e]
  omega
set_option maxHeartbeats 400000 in
theorem ob_0_8 (n : Int) (w : World) (h1 : 0 ≤ n) (h2 : n ≤ 18446744073709551615) :
    Calls Try.prog 36 #[.int .u64 n, .int .i64 0, .int .i64 8] w fun e w' => e = .returned (.int .u8 (n / 1 % 256)) ∧ ∃ k, w' = w.drewN k := by
  have e := and_mask (n / 1) 8 255 (by omega) (by omega) (by decide) (by omega)
  have HE := Lib.hid e
  clear e
  go_enter Try.func36, Try.ntmps36
  go_wp2
  go_quiet (fail)
  go_wp2
  go_ret
  refine ⟨ret_int ?_, _, rfl⟩
  have e := HE.out
  simp only [show ((2 ^ 8 : Nat) : Int) = 256 by decide, Int.ediv_one] at e
  simp only [e]
  omega

theorem tz_any (x : Int) (w : World) (h0 : 0 ≤ x) (h1 : x ≤ 255) :
    Calls Try.prog 33 #[.int .u8 x] w fun e w' => e = .returned (.int .i64 (Lib.trailingZeros8 x.toNat)) ∧ w' = w := by
  go_enter Try.func33, Try.ntmps33
  go_wp2
  go_ret
  exact ⟨ret_int (by unfold wrap64; exact Lib.ntz8_int x h0 h1), rfl⟩
end Go.Proofs.Ytlipnaninocfhaa
