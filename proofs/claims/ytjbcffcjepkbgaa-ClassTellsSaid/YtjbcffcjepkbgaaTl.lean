/- The law ClassTells answers true. Condition: the numbers fit an int. -/
import Derived.Test.YtjbcffcjepkbgaaRo
namespace Go.Proofs.Ytjbcffcjepkbgaa
open Go.RowKit

theorem pw_small : ∀ n : Fin 33, pw (n.val : Int) = pkB (n.val : Int) 62 := by decide +kernel
theorem ofR_great (s a : Int) (h : 32 < a) : ∀ r, ofR s a r = -1
  | 0 => rfl
  | r + 1 => by
    have h1 : alI (3 - r) ≤ 32 := by unfold alI; omega
    rw [miss s a r (by simp [en]; omega)]
    exact ofR_great s a h r
theorem pkB_low (a : Int) (h : a ≤ 0) : ∀ k, pkB a k = false
  | 0 => rfl
  | k + 1 => by
    have : (0 : Int) < 2 ^ k := Int.pow_pos (by omega)
    rw [pkB_step, pkB_low a h k]
    simp; omega
theorem rof_eq (s a : Int) : rofI s a = ofI s a := by
  by_cases h : 32 < a
  · simp [rofI, ofI, ofR_great s a h]
  · by_cases h0 : a ≤ 0
    · have hp : pw a = false := by simp [pw]; omega
      simp [rofI, ofI, hp, pkB_low a h0]
    · have := pw_small ⟨a.toNat, by omega⟩
      simp only [Int.toNat_of_nonneg (show 0 ≤ a by omega)] at this
      simp [rofI, ofI, this, Bool.and_comm]

set_option maxHeartbeats 400000 in
theorem rpages_any (n : Int) (w : World) (h1 : -9223372036854775808 ≤ n) (h2 : n ≤ 9223372036854775807) :
    Calls Try.prog 16 #[.int .i64 n] w fun e w' => e = .returned (.int .i64 (pgI n)) ∧ w = w' := by
  by_cases h : n < 1
  · have hp : pgI n = 0 := by simp [pgI, h]
    rw [hp]
    go_enter Try.func16, Try.ntmps16
    go_wp2
    go_ret
    exact ⟨rfl, rfl⟩
  · by_cases h3 : 0 < n % 64
    · go_enter Try.func16, Try.ntmps16
      go_wp2
      go_ret
      exact ⟨ret_int (by simp [pgI]; omega), rfl⟩
    · go_enter Try.func16, Try.ntmps16
      go_wp2
      go_ret
      exact ⟨ret_int (by simp [pgI]; omega), rfl⟩

theorem rb_yes (c off : Int) (h : bo c off = true) : rbI c off = bk c off ∧ 0 ≤ bk c off := by
  have hq : 0 ≤ off / szI c := by
    simp only [bo, Bool.and_eq_true, decide_eq_true_eq] at h
    have hs := szI_pos c
    exact Int.ediv_nonneg h.2.2.1 (by omega)
  simp [rbI, bk, h, hq]
theorem rb_no (c off : Int) (h : bo c off = false) : rbI c off = -1 ∧ bk c off = 0 := by simp [rbI, bk, h]

set_option maxHeartbeats 1000000 in
theorem tells_walk (s a c off : Int) (w : World) (hs1 : -9223372036854775808 ≤ s) (hs2 : s ≤ 9223372036854775807) (ha1 : -9223372036854775808 ≤ a) (ha2 : a ≤ 9223372036854775807) (ho2 : off ≤ 9223372036854775807) :
    Calls Try.prog 4 #[.int .i64 s, .int .i64 a, .int .i64 c, .int .i64 off] w fun e w' => e = .returned (.bool true) ∧ Below w.heap.size w w' := by
  have heq := rof_eq s a
  by_cases hb : bo c off = true
  · obtain ⟨hr, hq⟩ := rb_yes c off hb
    go_enter Try.func4, Try.ntmps4
    go_wp2_with fail
    refine (block_any _ _ _ ho2).mono ?_
    rintro e w1 ⟨rfl, b1⟩
    go_wp2_with fail
    refine (rblock_any _ _ _).mono ?_
    rintro e w2 ⟨rfl, b2⟩
    go_wp2_with fail
    refine (of_any _ _ _ ha1 ha2).mono ?_
    rintro e w3 ⟨rfl, b3⟩
    go_wp2_with fail
    refine (rof_any _ _ _).mono ?_
    rintro e w4 ⟨rfl, b4⟩
    go_wp2_with fail
    refine (pages_any _ _ hs1 hs2).mono ?_
    rintro e w5 ⟨rfl, rfl⟩
    go_wp2_with fail
    refine (rpages_any _ _ hs1 hs2).mono ?_
    rintro e w5 ⟨rfl, rfl⟩
    go_wp2_with fail
    refine (awake_any _).mono ?_
    rintro e w6 ⟨rfl, b6⟩
    go_wp2_with fail
    go_ret
    exact ⟨rfl, bnext (bnext (bnext (bnext b1 b2) b3) b4) b6⟩
  · obtain ⟨hr, hq⟩ := rb_no c off (by simpa using hb)
    have hb' : bo c off = false := by simpa using hb
    clear hb
    go_enter Try.func4, Try.ntmps4
    go_wp2_with fail
    refine (block_any _ _ _ ho2).mono ?_
    rintro e w1 ⟨rfl, b1⟩
    go_wp2_with fail
    refine (rblock_any _ _ _).mono ?_
    rintro e w2 ⟨rfl, b2⟩
    go_wp2_with fail
    refine (of_any _ _ _ ha1 ha2).mono ?_
    rintro e w3 ⟨rfl, b3⟩
    go_wp2_with fail
    refine (rof_any _ _ _).mono ?_
    rintro e w4 ⟨rfl, b4⟩
    go_wp2_with fail
    refine (pages_any _ _ hs1 hs2).mono ?_
    rintro e w5 ⟨rfl, rfl⟩
    go_wp2_with fail
    refine (rpages_any _ _ hs1 hs2).mono ?_
    rintro e w5 ⟨rfl, rfl⟩
    go_wp2_with fail
    refine (awake_any _).mono ?_
    rintro e w6 ⟨rfl, b6⟩
    go_wp2_with fail
    go_ret
    exact ⟨rfl, bnext (bnext (bnext (bnext b1 b2) b3) b4) b6⟩
end Go.Proofs.Ytjbcffcjepkbgaa
