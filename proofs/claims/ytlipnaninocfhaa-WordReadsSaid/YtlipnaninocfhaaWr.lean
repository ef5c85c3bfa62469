/- The reference functions of layer 1 by their numbers. Condition: the numbers fit their kinds, the places lie within a word. -/
import Derived.Test.YtlipnaninocfhaaWf
namespace Go.Proofs.Ytlipnaninocfhaa
open Go.RowKit
set_option linter.unusedVariables false

theorem pow_le (k : Nat) (h : k ≤ 63) : 1 ≤ ((2 ^ k : Nat) : Int) ∧ ((2 ^ k : Nat) : Int) ≤ 9223372036854775808 := by
  have h1 : 2 ^ k ≤ 2 ^ 63 := Nat.pow_le_pow_right (by omega) h
  have h2 : 0 < 2 ^ k := Nat.pow_pos (by omega)
  omega
theorem pow_next (k : Nat) : ((2 ^ (k + 1) : Nat) : Int) = 2 * ((2 ^ k : Nat) : Int) := by
  rw [Nat.pow_succ]; omega

theorem mod_pow (n : Int) (k : Nat) (hk : k ≤ 63) : n % 18446744073709551616 % ((2 ^ k : Nat) : Int) = n % ((2 ^ k : Nat) : Int) := by
  refine Int.emod_emod_of_dvd n ⟨((2 ^ (64 - k) : Nat) : Int), ?_⟩
  rw [← Int.natCast_mul, ← Nat.pow_add, show k + (64 - k) = 64 by omega]
  rfl

set_option maxHeartbeats 400000 in
theorem power_any (n : Int) (k : Nat) (P : Int) (w : World) (hn : n = (k : Int)) (hk : k ≤ 63) (hP : ((2 ^ k : Nat) : Int) = P) :
    Calls Try.prog 31 #[.int .i64 n] w fun e w' => e = .returned (.int .u64 P) ∧ w' = w := by
  subst hn
  subst hP
  go_enter Try.func31, Try.ntmps31
  go_wp2_with fail
  go_loop [3, 4] (fun x i => ∃ j : Nat, j ≤ k ∧ i = .int .i64 j ∧ x = .int .u64 ((2 ^ j : Nat) : Int)) (fun _ i => k - (intOf i).toNat)
  case atStart => exact ⟨0, Nat.zero_le _, rfl, rfl⟩
  case round =>
    obtain ⟨j, hj, rfl, rfl⟩ := hrel
    by_cases hlt : j < k
    · have hp := pow_le j (by omega)
      have hq := pow_le (j + 1) (by omega)
      have HN := Lib.hid (pow_next j)
      rw [HN.out] at hq
      generalize ((2 ^ j : Nat) : Int) = x at *
      go_wp2
      go_round
      case rel => exact ⟨j + 1, by omega, by go_num, by rw [HN.out]⟩
      case measure => simp [intOf]; omega
    · obtain rfl : j = k := by omega
      go_wp2
      go_ret
      exact ⟨rfl, rfl⟩

set_option maxHeartbeats 400000 in
theorem low_any (n : Int) (m : Int) (k : Nat) (P : Int) (w : World) (hm : m = (k : Int)) (hk : k ≤ 63) (hP : ((2 ^ k : Nat) : Int) = P) :
    Calls Try.prog 30 #[.int .i64 n, .int .i64 m] w fun e w' => e = .returned (.int .u64 (n % P)) ∧ w' = w := by
  subst hm
  have hp := pow_le k hk
  rw [hP] at hp
  have HP := Lib.hid hP
  clear hP
  go_enter Try.func30, Try.ntmps30
  go_wp2_with fail
  refine (power_any _ k P _ rfl hk HP.out).mono ?_
  rintro e w1 ⟨rfl, rfl⟩
  go_wp2_with fail
  go_ret
  refine ⟨ret_int ?_, rfl⟩
  rw [IntKind.wrap_u64, Int.tmod_eq_emod_of_nonneg (by omega), ← HP.out]
  exact mod_pow n k hk

set_option maxHeartbeats 400000 in
theorem bit_any (x n : Int) (k : Nat) (P : Int) (w : World) (hn : n = (k : Int)) (hk : k ≤ 63) (h0 : 0 ≤ x) (h1 : x ≤ 18446744073709551615) (hP : ((2 ^ k : Nat) : Int) = P) :
    Calls Try.prog 26 #[.int .u64 x, .int .i64 n] w fun e w' => e = .returned (.bool (x / P % 2 == 1)) ∧ w' = w := by
  subst hn
  have hp := pow_le k hk
  rw [hP] at hp
  have HP := Lib.hid hP
  clear hP
  have hd : 0 ≤ x / P := Int.ediv_nonneg h0 (by omega)
  have hd' : x / P ≤ x := Int.ediv_le_self P h0
  go_enter Try.func26, Try.ntmps26
  go_wp2_with fail
  refine (power_any _ k P _ rfl hk HP.out).mono ?_
  rintro e w1 ⟨rfl, rfl⟩
  go_wp2_with fail
  go_ret
  exact ⟨rfl, rfl⟩

/-- m bits of x from bit a on -/
def fld (x : Int) (a m : Nat) : Int := x / ((2 ^ a : Nat) : Int) % ((2 ^ m : Nat) : Int)

theorem pow_pos' (k : Nat) : 0 < ((2 ^ k : Nat) : Int) := by
  have : 0 < 2 ^ k := Nat.pow_pos (by omega)
  omega
theorem mod_two (y M : Int) (hM : 0 < M) : y % (2 * M) = 2 * (y / 2 % M) + y % 2 := by
  have d := Int.mul_ediv_add_emod (y / 2) M
  have s0 := Int.emod_nonneg (y / 2) (show M ≠ 0 by omega)
  have s1 := Int.emod_lt_of_pos (y / 2) hM
  have e := Int.mul_ediv_add_emod y 2
  have r0 := Int.emod_nonneg y (show (2 : Int) ≠ 0 by omega)
  have r1 := Int.emod_lt_of_pos y (show (0 : Int) < 2 by omega)
  generalize y / 2 % M = s at *
  generalize y % 2 = r at *
  generalize y / 2 / M = t at *
  generalize y / 2 = q at *
  have key : y = (2 * s + r) + 2 * M * t := by
    rw [Int.mul_assoc]; generalize M * t = u at *; omega
  rw [key, Int.add_mul_emod_self_left]
  exact Int.emod_eq_of_lt (by omega) (by omega)
/-- the bits from j on, of m bits -/
theorem fld_step (x : Int) (a m : Nat) : fld x a (m + 1) = 2 * fld x (a + 1) m + x / ((2 ^ a : Nat) : Int) % 2 := by
  unfold fld
  have e1 : ((2 ^ (a + 1) : Nat) : Int) = ((2 ^ a : Nat) : Int) * 2 := by rw [Nat.pow_succ, Int.natCast_mul]; rfl
  rw [e1, pow_next m, ← Int.ediv_ediv_of_nonneg (Int.le_of_lt (pow_pos' a))]
  exact mod_two _ _ (pow_pos' m)
theorem fld_bd (x : Int) (a m : Nat) (hm : m ≤ 40) : 0 ≤ fld x a m ∧ fld x a m ≤ 1099511627776 := by
  have h0 := Int.emod_nonneg (x / ((2 ^ a : Nat) : Int)) (show ((2 ^ m : Nat) : Int) ≠ 0 by have := pow_pos' m; omega)
  have h1 := Int.emod_lt_of_pos (x / ((2 ^ a : Nat) : Int)) (pow_pos' m)
  have h2 : 2 ^ m ≤ 2 ^ 40 := Nat.pow_le_pow_right (by omega) hm
  unfold fld
  omega

set_option maxHeartbeats 1000000 in
theorem field_any (x : Int) (a m : Nat) (an mn : Int) (w : World) (ha : an = (a : Int)) (hm : mn = (m : Int)) (hk : a + m ≤ 64) (hm1 : m ≤ 40) (h0 : 0 ≤ x) (h1 : x ≤ 18446744073709551615) :
    Calls Try.prog 25 #[.int .u64 x, .int .i64 an, .int .i64 mn] w fun e w' => e = .returned (.int .i64 (fld x a m)) ∧ w' = w := by
  subst ha
  subst hm
  go_enter Try.func25, Try.ntmps25
  go_wp2_with fail
  go_loop [7, 8] (fun n i => ∃ j : Nat, j ≤ m ∧ i = .int .i64 ((m : Int) - 1 - j) ∧ n = .int .i64 (fld x (a + (m - j)) j)) (fun _ i => (intOf i + 1).toNat)
  case atStart => exact ⟨0, Nat.zero_le _, by simp, by simp [fld]⟩
  case round =>
    obtain ⟨j, hj, rfl, rfl⟩ := hrel
    by_cases hlt : j < m
    · have hf := fld_bd x (a + (m - j)) j (by omega)
      have hs := fld_step x (a + (m - (j + 1))) j
      rw [show a + (m - (j + 1)) + 1 = a + (m - j) by omega] at hs
      have HS := Lib.hid hs
      clear hs
      generalize hF : fld x (a + (m - j)) j = F at *
      clear hF
      have hP : ∃ P, ((2 ^ (a + (m - (j + 1))) : Nat) : Int) = P := ⟨_, rfl⟩
      obtain ⟨P, hP⟩ := hP
      rw [hP] at HS
      have HP := Lib.hid hP
      clear hP
      go_wp2_with fail
      refine (bit_any x _ (a + (m - (j + 1))) P _ (by omega) (by omega) h0 h1 HP.out).mono ?_
      rintro e w1 ⟨rfl, rfl⟩
      have hb := Int.emod_nonneg (x / P) (show (2 : Int) ≠ 0 by omega)
      have hb' := Int.emod_lt_of_pos (x / P) (show (0 : Int) < 2 by omega)
      generalize x / P % 2 = r at *
      by_cases hr : r = 1
      · subst hr
        go_wp2_with fail
        go_round
        case rel => exact ⟨j + 1, by omega, by go_num, by rw [HS.out]⟩
        case measure => simp [intOf]; omega
      · obtain rfl : r = 0 := by omega
        go_wp2_with fail
        go_round
        case rel => exact ⟨j + 1, by omega, by go_num, by rw [HS.out]; simp⟩
        case measure => simp [intOf]; omega
    · obtain rfl : j = m := by omega
      go_wp2
      go_ret
      exact ⟨ret_int (by simp), rfl⟩
end Go.Proofs.Ytlipnaninocfhaa
