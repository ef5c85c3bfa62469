/- The law WordBits answers true. Condition: the numbers fit their kinds. -/
import Derived.Test.YtlipnaninocfhaaWa
namespace Go.Proofs.Ytlipnaninocfhaa
open Go.RowKit
set_option linter.unusedVariables false

/-- what the law asks of the lowest bit of a map, map by map -/
theorem first_all : ∀ m : Fin 256, m.val ≠ 0 → 0 ≤ firI m.val ∧ firI m.val ≤ 7 ∧ bits .and .u8 ((m.val : Int) / 2 ^ (firI m.val).toNat) 1 = 1 ∧ bits .and .u8 (m.val : Int) ((2 ^ (firI m.val).toNat - 1) % 256) = 0 := by decide +kernel
theorem first_facts (m : Int) (h1 : 1 ≤ m) (h2 : m ≤ 255) : 0 ≤ firI m ∧ firI m ≤ 7 ∧ bits .and .u8 (m / 2 ^ (firI m).toNat) 1 = 1 ∧ bits .and .u8 m ((2 ^ (firI m).toNat - 1) % 256) = 0 := by
  have := first_all ⟨m.toNat, by omega⟩ (by simp; omega)
  simpa only [Int.toNat_of_nonneg (show 0 ≤ m by omega)] using this
theorem full_all : ∀ m : Fin 256, (firI (255 - (m.val : Int)) = -1 ∧ Lib.trailingZeros8 (255 - (m.val : Int)).toNat = 8) ∨ (firI (255 - (m.val : Int)) ≠ -1 ∧ (Lib.trailingZeros8 (255 - (m.val : Int)).toNat : Int) = firI (255 - (m.val : Int)) ∧ Lib.trailingZeros8 (255 - (m.val : Int)).toNat ≤ 8) := by decide +kernel
/-- a map is full up to just its first hole -/
theorem full_facts (m n : Int) (h1 : 0 ≤ m) (h2 : m ≤ 255) : (firI (255 - m) = -1 ∧ fulB m n = decide (n ≤ 8)) ∨ (firI (255 - m) ≠ -1 ∧ fulB m n = decide (n ≤ firI (255 - m))) := by
  have := full_all ⟨m.toNat, by omega⟩
  simp only [Int.toNat_of_nonneg h1] at this
  rcases this with ⟨e1, e2⟩ | ⟨e1, e2, e3⟩
  · exact .inl ⟨e1, by simp [fulB, e2]⟩
  · refine .inr ⟨e1, ?_⟩
    rw [← e2]
    simp [fulB]; omega

set_option maxHeartbeats 4000000 in
theorem bits_walk (m n : Int) (w : World) (m1 : 0 ≤ m) (m2 : m ≤ 255) (n1 : -9223372036854775808 ≤ n) (n2 : n ≤ 9223372036854775807) :
    Calls Try.prog 4 #[.int .u8 m, .int .i64 n] w fun e w' => e = .returned (.bool true) ∧ Below w.heap.size w w' := by
  have hx := xor_max m m1 m2
  have HF := Lib.hid (full_facts m n m1 m2)
  by_cases h0 : m = 0
  · subst h0
    have ef : firI 0 = -1 := rfl
    go_enter Try.func4, Try.ntmps4
    go_wp2_with fail
    refine (first_any _ _ _ _ _ (by omega) (by omega)).mono ?_
    rintro e w1 ⟨rfl, b1⟩
    simp only [show (255 : Int) - 0 = 255 from rfl] at HF hx
    have hB := ((Below.refl _ w).alloc (Nat.le_refl _) (.cells #[.int .u8 0, .bool false, .int .i64 0, .int .u32 0] 30)).trans (b1.mono (by simp))
    have q0 : w1.cell? ⟨w.heap.size, 0, none⟩ = some (.int .u8 0) := (b1.cell (p := ⟨w.heap.size, 0, none⟩) (by simp)).trans ((cell_last _ _ _ _ 0 rfl).trans rfl)
    have q1 : w1.cell? ⟨w.heap.size, 1, none⟩ = some (.bool false) := (b1.cell (p := ⟨w.heap.size, 1, none⟩) (by simp)).trans ((cell_last _ _ _ _ 1 rfl).trans rfl)
    have q2 : w1.cell? ⟨w.heap.size, 2, none⟩ = some (.int .i64 0) := (b1.cell (p := ⟨w.heap.size, 2, none⟩) (by simp)).trans ((cell_last _ _ _ _ 2 rfl).trans rfl)
    have q3 : w1.cell? ⟨w.heap.size, 3, none⟩ = some (.int .u32 0) := (b1.cell (p := ⟨w.heap.size, 3, none⟩) (by simp)).trans ((cell_last _ _ _ _ 3 rfl).trans rfl)
    have hlt : w.heap.size < w1.heap.size := by have := b1.size; simp at this; omega
    clear b1
    go_wp2_with fail
    refine (first_any _ _ _ _ _ (by omega) (by omega)).mono ?_
    rintro e w2 ⟨rfl, b2⟩
    have hB2 := (hB.alloc hB.size _).trans (b2.mono (by have := hB.size; simp; omega))
    have u0 := (b2.cell (p := ⟨w.heap.size, 0, none⟩) (by simp; omega)).trans (cell_old q0)
    have u1 := (b2.cell (p := ⟨w.heap.size, 1, none⟩) (by simp; omega)).trans (cell_old q1)
    have u2 := (b2.cell (p := ⟨w.heap.size, 2, none⟩) (by simp; omega)).trans (cell_old q2)
    have u3 := (b2.cell (p := ⟨w.heap.size, 3, none⟩) (by simp; omega)).trans (cell_old q3)
    clear q0 q1 q2 q3 b2 hB hlt
    rcases HF.out with ⟨z1, z2⟩ | ⟨z1, z2⟩
    · generalize firI 255 = g at *
      subst z1
      go_wp2_with fail
      refine (full_any _ _ _ _ _ _ (by omega) (by omega)).mono ?_
      rintro e w3 ⟨rfl, b3⟩
      rw [z2]
      clear z2
      go_wp2_with fail
      refine (awake_any _).mono ?_
      rintro e w4 ⟨rfl, b4⟩
      go_wp2_with fail
      go_ret
      exact ⟨rfl, bnext (bnext hB2 b3) b4⟩
    · generalize firI 255 = g at *
      have z3 : (g == -1) = false := by simpa using z1
      have HZ := Lib.hid z2
      clear z1 z2
      go_wp2_with fail
      refine (full_any _ _ _ _ _ _ (by omega) (by omega)).mono ?_
      rintro e w3 ⟨rfl, b3⟩
      rw [HZ.out]
      go_wp2_with fail
      refine (awake_any _).mono ?_
      rintro e w4 ⟨rfl, b4⟩
      go_wp2_with fail
      go_ret
      exact ⟨rfl, bnext (bnext hB2 b3) b4⟩
  · have hm0 : (m == 0) = false := by simpa using h0
    obtain ⟨k1, k2, g1, g2⟩ := first_facts m (by omega) m2
    go_enter Try.func4, Try.ntmps4
    go_wp2_with fail
    refine (first_any _ _ _ _ _ m1 m2).mono ?_
    rintro e w1 ⟨rfl, b1⟩
    generalize firI m = k at *
    have hk1 : (k == -1) = false := by simp; omega
    have hm1 : (m != 0) = true := by simpa using h0
    have hB := ((Below.refl _ w).alloc (Nat.le_refl _) (.cells #[.int .u8 m, .bool false, .int .i64 0, .int .u32 0] 30)).trans (b1.mono (by simp))
    have q0 : w1.cell? ⟨w.heap.size, 0, none⟩ = some (.int .u8 m) := (b1.cell (p := ⟨w.heap.size, 0, none⟩) (by simp)).trans ((cell_last _ _ _ _ 0 rfl).trans rfl)
    have q1 : w1.cell? ⟨w.heap.size, 1, none⟩ = some (.bool false) := (b1.cell (p := ⟨w.heap.size, 1, none⟩) (by simp)).trans ((cell_last _ _ _ _ 1 rfl).trans rfl)
    have q2 : w1.cell? ⟨w.heap.size, 2, none⟩ = some (.int .i64 0) := (b1.cell (p := ⟨w.heap.size, 2, none⟩) (by simp)).trans ((cell_last _ _ _ _ 2 rfl).trans rfl)
    have q3 : w1.cell? ⟨w.heap.size, 3, none⟩ = some (.int .u32 0) := (b1.cell (p := ⟨w.heap.size, 3, none⟩) (by simp)).trans ((cell_last _ _ _ _ 3 rfl).trans rfl)
    have hlt : w.heap.size < w1.heap.size := by have := b1.size; simp at this; omega
    clear b1
    go_wp2_with fail
    refine (first_any _ _ _ _ _ (by omega) (by omega)).mono ?_
    rintro e w2 ⟨rfl, b2⟩
    have hB2 := (hB.alloc hB.size _).trans (b2.mono (by have := hB.size; simp; omega))
    have u0 := (b2.cell (p := ⟨w.heap.size, 0, none⟩) (by simp; omega)).trans (cell_old q0)
    have u1 := (b2.cell (p := ⟨w.heap.size, 1, none⟩) (by simp; omega)).trans (cell_old q1)
    have u2 := (b2.cell (p := ⟨w.heap.size, 2, none⟩) (by simp; omega)).trans (cell_old q2)
    have u3 := (b2.cell (p := ⟨w.heap.size, 3, none⟩) (by simp; omega)).trans (cell_old q3)
    clear q0 q1 q2 q3 b2 hB hlt
    rcases HF.out with ⟨z1, z2⟩ | ⟨z1, z2⟩
    · generalize firI (255 - m) = g at *
      subst z1
      go_wp2_with fail
      refine (full_any _ _ _ _ _ _ m1 m2).mono ?_
      rintro e w3 ⟨rfl, b3⟩
      rw [z2]
      clear z2
      go_wp2_with fail
      refine (awake_any _).mono ?_
      rintro e w4 ⟨rfl, b4⟩
      go_wp2_with fail
      go_ret
      exact ⟨rfl, bnext (bnext hB2 b3) b4⟩
    · generalize firI (255 - m) = g at *
      have z3 : (g == -1) = false := by simpa using z1
      have HZ := Lib.hid z2
      clear z1 z2
      go_wp2_with fail
      refine (full_any _ _ _ _ _ _ m1 m2).mono ?_
      rintro e w3 ⟨rfl, b3⟩
      rw [HZ.out]
      go_wp2_with fail
      refine (awake_any _).mono ?_
      rintro e w4 ⟨rfl, b4⟩
      go_wp2_with fail
      go_ret
      exact ⟨rfl, bnext (bnext hB2 b3) b4⟩
end Go.Proofs.Ytlipnaninocfhaa
