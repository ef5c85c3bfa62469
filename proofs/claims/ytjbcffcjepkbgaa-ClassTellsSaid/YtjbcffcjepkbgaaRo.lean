/- The reference function Of by its numbers. No condition. -/
import Derived.Test.YtjbcffcjepkbgaaRf
namespace Go.Proofs.Ytjbcffcjepkbgaa
open Go.RowKit

/-- is a one of the first k powers of 2? -/
def pkB (a : Int) : Nat → Bool
  | 0 => false
  | k + 1 => pkB a k || (a == 2 ^ k)
def rofI (s a : Int) : Int := if pkB a 62 && decide (1 ≤ s) then ofR s a 4 else -1

theorem pkB_step (a : Int) (k : Nat) : pkB a (k + 1) = (pkB a k || (a == 2 ^ k)) := rfl
theorem pow_bd (k : Nat) (h : k ≤ 62) : 1 ≤ (2 : Int) ^ k ∧ (2 : Int) ^ k ≤ 4611686018427387904 := by
  constructor
  · have : (0 : Int) < 2 ^ k := Int.pow_pos (by omega)
    omega
  · have h1 : 2 ^ k ≤ 2 ^ 62 := Nat.pow_le_pow_right (by omega) h
    have h2 : ((2 ^ k : Nat) : Int) ≤ ((2 ^ 62 : Nat) : Int) := Int.ofNat_le.2 h1
    rw [Int.natCast_pow] at h2
    simpa using h2

set_option maxHeartbeats 2000000 in
theorem rof_any (s a : Int) (w : World) :
    Calls Try.prog 15 #[.int .i64 s, .int .i64 a] w fun e w' => e = .returned (.int .i64 (rofI s a)) ∧ Below w.heap.size w w' := by
  go_enter Try.func15, Try.ntmps15
  go_wp2_with fail
  go_loop [5, 6, 7] (fun b n i => ∃ k : Nat, k ≤ 62 ∧ i = .int .i64 k ∧ n = .int .i64 (2 ^ k) ∧ b = .bool (pkB a k)) (fun _ _ i => 62 - (intOf i).toNat)
  case atStart => exact ⟨0, by omega, rfl, rfl, rfl⟩
  case round =>
    obtain ⟨k, hk, rfl, rfl, rfl⟩ := hrel
    by_cases hlt : k < 62
    · have hp := pow_bd k hk
      have hp' : (2 : Int) ^ k * 2 ≤ 4611686018427387904 := by
        have := (pow_bd (k + 1) (by omega)).2
        rwa [Int.pow_succ] at this
      have hps := Lib.hid (Int.pow_succ (2 : Int) k)
      have hst := Lib.hid (pkB_step a k)
      generalize hN : (2 : Int) ^ k = N at *
      have HN := Lib.hid hN
      clear hN
      generalize hb : pkB a k = b at *
      have HB := Lib.hid hb
      clear hb
      cases b
      · go_wp2
        go_round
        case rel => exact ⟨k + 1, by omega, by go_num, by rw [hps.out], by rw [hst.out]; rfl⟩
        case measure => simp [intOf]; omega
      · go_wp2
        go_round
        case rel => exact ⟨k + 1, by omega, by go_num, by rw [hps.out], by rw [hst.out]; rfl⟩
        case measure => simp [intOf]; omega
    · obtain rfl : k = 62 := by omega
      generalize hok : pkB a 62 = ok at *
      have Hok := Lib.hid hok
      clear hok
      cases ok
      · go_wp2_with fail
        refine wp_loop_rounds 1 ?_
        rw [rounds_succ]
        go_wp2
        go_ret
        exact ⟨ret_int (by simp [rofI, Hok.out]), Below.refl _ _⟩
      · by_cases hs : 1 ≤ s
        · have hr : rofI s a = ofR s a 4 := by simp [rofI, Hok.out, hs]
          have Hr := Lib.hid hr
          clear hr
          go_wp2_with fail
          go_loopw [8] (fun i wr => ∃ k : Nat, k ≤ 4 ∧ i = .int .i64 k ∧ Hid (ofR s a 4 = ofR s a (4 - k)) ∧ Below w.heap.size w wr) (fun i _ => 4 - (intOf i).toNat)
          case atStart => exact ⟨0, by omega, rfl, Lib.hid rfl, Below.refl _ _⟩
          case round =>
            obtain ⟨k, hk, rfl, Hof, hB⟩ := hrel
            rcases (show k = 0 ∨ k = 1 ∨ k = 2 ∨ k = 3 ∨ k = 4 by omega) with rfl | rfl | rfl | rfl | rfl
            · go_wp2_with fail
              refine (rsize_any _ _ (by omega) (by omega)).mono ?_
              rintro e w1 ⟨rfl, b1⟩
              have e1 : szI 0 = 8 := by decide
              have e2 : alI 0 = 8 := by decide
              by_cases t1 : s ≤ 8
              · go_wp2_with fail
                refine (ralign_any _ _ (by omega) (by omega)).mono ?_
                rintro e w2 ⟨rfl, b2⟩
                by_cases t2 : a ≤ 8
                · go_wp2
                  go_ret
                  exact ⟨ret_int (Hr.out.trans <| (hit s a 3 (by simp [en, szI, alI, t1, t2]))).symm, bnext (bnext hB b1) b2⟩
                · go_wp2
                  go_roundw
                  case rel => exact ⟨1, by omega, rfl, Lib.hid ((miss s a 3 (by simp [en, szI, alI, t2]))), bnext (bnext hB b1) b2⟩
                  case measure => simp [intOf]
              · go_wp2
                go_roundw
                case rel => exact ⟨1, by omega, rfl, Lib.hid ((miss s a 3 (by simp [en, szI, alI]; omega))), bnext hB b1⟩
                case measure => simp [intOf]
            · go_wp2_with fail
              refine (rsize_any _ _ (by omega) (by omega)).mono ?_
              rintro e w1 ⟨rfl, b1⟩
              have e1 : szI 1 = 16 := by decide
              have e2 : alI 1 = 16 := by decide
              by_cases t1 : s ≤ 16
              · go_wp2_with fail
                refine (ralign_any _ _ (by omega) (by omega)).mono ?_
                rintro e w2 ⟨rfl, b2⟩
                by_cases t2 : a ≤ 16
                · go_wp2
                  go_ret
                  exact ⟨ret_int (Hr.out.trans <| Hof.out.trans (hit s a 2 (by simp [en, szI, alI, t1, t2]))).symm, bnext (bnext hB b1) b2⟩
                · go_wp2
                  go_roundw
                  case rel => exact ⟨2, by omega, rfl, Lib.hid (Hof.out.trans (miss s a 2 (by simp [en, szI, alI, t2]))), bnext (bnext hB b1) b2⟩
                  case measure => simp [intOf]
              · go_wp2
                go_roundw
                case rel => exact ⟨2, by omega, rfl, Lib.hid (Hof.out.trans (miss s a 2 (by simp [en, szI, alI]; omega))), bnext hB b1⟩
                case measure => simp [intOf]
            · go_wp2_with fail
              refine (rsize_any _ _ (by omega) (by omega)).mono ?_
              rintro e w1 ⟨rfl, b1⟩
              have e1 : szI 2 = 24 := by decide
              have e2 : alI 2 = 8 := by decide
              by_cases t1 : s ≤ 24
              · go_wp2_with fail
                refine (ralign_any _ _ (by omega) (by omega)).mono ?_
                rintro e w2 ⟨rfl, b2⟩
                by_cases t2 : a ≤ 8
                · go_wp2
                  go_ret
                  exact ⟨ret_int (Hr.out.trans <| Hof.out.trans (hit s a 1 (by simp [en, szI, alI, t1, t2]))).symm, bnext (bnext hB b1) b2⟩
                · go_wp2
                  go_roundw
                  case rel => exact ⟨3, by omega, rfl, Lib.hid (Hof.out.trans (miss s a 1 (by simp [en, szI, alI, t2]))), bnext (bnext hB b1) b2⟩
                  case measure => simp [intOf]
              · go_wp2
                go_roundw
                case rel => exact ⟨3, by omega, rfl, Lib.hid (Hof.out.trans (miss s a 1 (by simp [en, szI, alI]; omega))), bnext hB b1⟩
                case measure => simp [intOf]
            · go_wp2_with fail
              refine (rsize_any _ _ (by omega) (by omega)).mono ?_
              rintro e w1 ⟨rfl, b1⟩
              have e1 : szI 3 = 32 := by decide
              have e2 : alI 3 = 32 := by decide
              by_cases t1 : s ≤ 32
              · go_wp2_with fail
                refine (ralign_any _ _ (by omega) (by omega)).mono ?_
                rintro e w2 ⟨rfl, b2⟩
                by_cases t2 : a ≤ 32
                · go_wp2
                  go_ret
                  exact ⟨ret_int (Hr.out.trans <| Hof.out.trans (hit s a 0 (by simp [en, szI, alI, t1, t2]))).symm, bnext (bnext hB b1) b2⟩
                · go_wp2
                  go_roundw
                  case rel => exact ⟨4, by omega, rfl, Lib.hid (Hof.out.trans (miss s a 0 (by simp [en, szI, alI, t2]))), bnext (bnext hB b1) b2⟩
                  case measure => simp [intOf]
              · go_wp2
                go_roundw
                case rel => exact ⟨4, by omega, rfl, Lib.hid (Hof.out.trans (miss s a 0 (by simp [en, szI, alI]; omega))), bnext hB b1⟩
                case measure => simp [intOf]
            · go_wp2
              go_ret
              exact ⟨ret_int (by rw [Hr.out, Hof.out]; rfl), hB⟩
        · have hr : rofI s a = -1 := by simp [rofI, hs]
          have Hr := Lib.hid hr
          clear hr
          go_wp2_with fail
          refine wp_loop_rounds 1 ?_
          rw [rounds_succ]
          go_wp2
          go_ret
          exact ⟨ret_int Hr.out.symm, Below.refl _ _⟩
end Go.Proofs.Ytjbcffcjepkbgaa
