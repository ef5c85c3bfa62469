/- Plain facts for the law WordReads. Condition: the numbers fit their kinds. -/
import Derived.Test.YtlipnaninocfhaaWe
namespace Go.Proofs.Ytlipnaninocfhaa
open Go.RowKit
set_option linter.unusedVariables false

theorem fld_at (x : Int) (a m : Nat) (P M : Int) (hP : ((2 ^ a : Nat) : Int) = P) (hM : ((2 ^ m : Nat) : Int) = M) : fld x a m = x / P % M := by
  unfold fld; rw [hP, hM]
theorem field_c (x : Int) (a m : Nat) (an mn P M : Int) (w : World) (ha : an = (a : Int)) (hm : mn = (m : Int)) (hk : a + m ≤ 64) (hm1 : m ≤ 40) (h0 : 0 ≤ x) (h1 : x ≤ 18446744073709551615) (hP : ((2 ^ a : Nat) : Int) = P) (hM : ((2 ^ m : Nat) : Int) = M) :
    Calls Try.prog 25 #[.int .u64 x, .int .i64 an, .int .i64 mn] w fun e w' => e = .returned (.int .i64 (x / P % M)) ∧ w' = w := by
  rw [← fld_at x a m P M hP hM]
  exact field_any x a m an mn w ha hm hk hm1 h0 h1


/-- the lowest of the first r bits from bit 7 down -/
def fiR (x : Int) : Nat → Int
  | 0 => -1
  | r + 1 => if x / ((2 ^ (7 - r) : Nat) : Int) % 2 = 1 then ((7 - r : Nat) : Int) else fiR x r
def fuR (x n : Int) : Nat → Bool
  | 0 => decide (n ≤ 8)
  | r + 1 => if x / ((2 ^ (7 - r) : Nat) : Int) % 2 = 1 then fuR x n r else if ((7 - r : Nat) : Int) < n then false else fuR x n r
theorem fiR_all : ∀ m : Fin 256, fiR m.val 8 = firI m.val := by decide +kernel
theorem fuR_all : ∀ m : Fin 256, ∀ n : Fin 9, fuR m.val n.val 8 = fulB m.val n.val := by decide +kernel
theorem bit_low (x : Int) (r : Nat) (h : r < 8) : x / ((2 ^ (7 - r) : Nat) : Int) % 2 = x % 256 / ((2 ^ (7 - r) : Nat) : Int) % 2 := by
  rcases (show r = 0 ∨ r = 1 ∨ r = 2 ∨ r = 3 ∨ r = 4 ∨ r = 5 ∨ r = 6 ∨ r = 7 by omega) with rfl | rfl | rfl | rfl | rfl | rfl | rfl | rfl
  all_goals (simp only [Nat.reduceSub, Nat.reducePow]; omega)
theorem fiR_low (x : Int) : ∀ r, r ≤ 8 → fiR x r = fiR (x % 256) r
  | 0, _ => rfl
  | r + 1, h => by rw [fiR, fiR, bit_low x r (by omega), fiR_low x r (by omega)]
theorem fuR_low (x n : Int) : ∀ r, r ≤ 8 → fuR x n r = fuR (x % 256) n r
  | 0, _ => rfl
  | r + 1, h => by rw [fuR, fuR, bit_low x r (by omega), fuR_low x n r (by omega)]
theorem fuR_neg (x n : Int) (hn : n ≤ 0) : ∀ r, r ≤ 8 → fuR x n r = fuR x 0 r
  | 0, _ => by simp [fuR]; omega
  | r + 1, h => by rw [fuR, fuR, fuR_neg x n hn r (by omega), if_neg (show ¬ ((7 - r : Nat) : Int) < n by omega), if_neg (show ¬ ((7 - r : Nat) : Int) < 0 by omega)]
theorem fuR_great (x n : Int) (hn : 8 < n) : ∀ r, r ≤ 8 → fuR x n r = false
  | 0, _ => by simp [fuR]; omega
  | r + 1, h => by rw [fuR, fuR_great x n hn r (by omega)]; simp
theorem first_eq (x : Int) : fiR x 8 = firI (x % 256) := by
  rw [fiR_low x 8 (by omega)]
  have := fiR_all ⟨(x % 256).toNat, by omega⟩
  simpa only [Int.toNat_of_nonneg (show 0 ≤ x % 256 by omega)] using this
theorem full_eq (x n : Int) : fuR x n 8 = fulB (x % 256) n := by
  rw [fuR_low x n 8 (by omega)]
  by_cases h8 : 8 < n
  · rw [fuR_great _ n h8 8 (by omega)]
    simp [fulB]; omega
  · by_cases h0 : n ≤ 0
    · rw [fuR_neg _ n h0 8 (by omega)]
      have := fuR_all ⟨(x % 256).toNat, by omega⟩ 0
      simp only [Int.toNat_of_nonneg (show 0 ≤ x % 256 by omega)] at this
      rw [show ((0 : Fin 9).val : Int) = 0 from rfl] at this
      rw [this]
      unfold fulB
      simp; omega
    · have := fuR_all ⟨(x % 256).toNat, by omega⟩ ⟨n.toNat, by omega⟩
      simpa only [Int.toNat_of_nonneg (show 0 ≤ x % 256 by omega), Int.toNat_of_nonneg (show 0 ≤ n by omega)] using this
end Go.Proofs.Ytlipnaninocfhaa
