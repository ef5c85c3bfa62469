/- Class.Of by its numbers. Condition: the alignment fits an int. -/
import Derived.Test.YtjbcffcjepkbgaaCl
namespace Go.Proofs.Ytjbcffcjepkbgaa
open Go.RowKit

/-- is class k enough? -/
def en (s a k : Int) : Bool := decide (s ≤ szI k) && decide (a ≤ alI k)
/-- the first one of the last r classes that is enough -/
def ofR (s a : Int) : Nat → Int
  | 0 => -1
  | r + 1 => if en s a (3 - r) then 3 - r else ofR s a r
def ofI (s a : Int) : Int := if decide (1 ≤ s) && pw a then ofR s a 4 else -1

theorem hit (s a : Int) (r : Nat) (h : en s a (3 - r) = true) : ofR s a (r + 1) = 3 - r := by rw [ofR, if_pos h]
theorem miss (s a : Int) (r : Nat) (h : en s a (3 - r) = false) : ofR s a (r + 1) = ofR s a r := by rw [ofR, if_neg (by simp [h])]
set_option maxHeartbeats 400000 in
theorem of_no (s a : Int) (w : World) (h1 : -9223372036854775808 ≤ a) (h2 : a ≤ 9223372036854775807) (h : s < 1 ∨ pw a = false) :
    Calls Try.prog 11 #[.int .i64 s, .int .i64 a] w fun e w' => e = .returned (.int .i64 (-1)) ∧ w = w' := by
  by_cases hs : s < 1
  · clear h
    go_enter Try.func11, Try.ntmps11
    go_wp2
    go_ret
    exact ⟨rfl, rfl⟩
  · have hp : pw a = false := h.resolve_left hs
    clear h
    go_enter Try.func11, Try.ntmps11
    go_wp2_with (go_at_call 17; refine (power_any _ _ h1 h2).mono ?_; rintro e w' ⟨rfl, rfl⟩)
    go_ret
    exact ⟨rfl, rfl⟩

set_option maxHeartbeats 2000000 in
theorem of_yes (s a : Int) (w : World) (h1 : -9223372036854775808 ≤ a) (h2 : a ≤ 9223372036854775807) (hs : 1 ≤ s) (hp : pw a = true) :
    Calls Try.prog 11 #[.int .i64 s, .int .i64 a] w fun e w' => e = .returned (.int .i64 (ofR s a 4)) ∧ Below w.heap.size w w' := by
  have i0 := ix0
  have i1 := ix1
  have i2 := ix2
  have i3 := ix3
  go_enter Try.func11, Try.ntmps11
  go_wp2_with (first | (go_at_call 17; refine (power_any _ _ h1 h2).mono ?_; rintro e w' ⟨rfl, rfl⟩) | (go_at_call 8; refine (table_any _).mono ?_; rintro e w1 ⟨rfl, hB⟩))
  go_loopw [15] (fun i wr => ∃ k : Nat, k ≤ 4 ∧ i = .int .i64 k ∧ ofR s a 4 = ofR s a (4 - k) ∧ Below w.heap.size w wr) (fun i _ => 4 - (intOf i).toNat)
  case atStart => exact ⟨0, by omega, rfl, rfl, by assumption⟩
  case round =>
    obtain ⟨k, hk, rfl, hof, hB⟩ := hrel
    have hz := hB.size
    have Hof := Lib.hid hof
    clear hof
    rcases (show k = 0 ∨ k = 1 ∨ k = 2 ∨ k = 3 ∨ k = 4 by omega) with rfl | rfl | rfl | rfl | rfl
    · go_wp2
      · go_ret
        exact ⟨ret_int (Eq.symm <| hit s a 3 (by simp [en, szI, alI, *])), hB.alloc hz _⟩
      all_goals
        go_roundw
        case rel => exact ⟨1, by omega, rfl, (miss s a 3 (by simp [en, szI, alI, *])), hB.alloc hz _⟩
        case measure => simp [intOf]
    · go_wp2
      · go_ret
        exact ⟨ret_int (Eq.symm <| Hof.out.trans (hit s a 2 (by simp [en, szI, alI, *]))), hB.alloc hz _⟩
      all_goals
        go_roundw
        case rel => exact ⟨2, by omega, rfl, Hof.out.trans (miss s a 2 (by simp [en, szI, alI, *])), hB.alloc hz _⟩
        case measure => simp [intOf]
    · go_wp2
      · go_ret
        exact ⟨ret_int (Eq.symm <| Hof.out.trans (hit s a 1 (by simp [en, szI, alI, *]))), hB.alloc hz _⟩
      all_goals
        go_roundw
        case rel => exact ⟨3, by omega, rfl, Hof.out.trans (miss s a 1 (by simp [en, szI, alI, *])), hB.alloc hz _⟩
        case measure => simp [intOf]
    · go_wp2
      · go_ret
        exact ⟨ret_int (Eq.symm <| Hof.out.trans (hit s a 0 (by simp [en, szI, alI, *]))), hB.alloc hz _⟩
      all_goals
        go_roundw
        case rel => exact ⟨4, by omega, rfl, Hof.out.trans (miss s a 0 (by simp [en, szI, alI, *])), hB.alloc hz _⟩
        case measure => simp [intOf]
    · go_wp2
      go_ret
      exact ⟨ret_int (by rw [Hof.out]; rfl), hB⟩

theorem of_any (s a : Int) (w : World) (h1 : -9223372036854775808 ≤ a) (h2 : a ≤ 9223372036854775807) :
    Calls Try.prog 11 #[.int .i64 s, .int .i64 a] w fun e w' => e = .returned (.int .i64 (ofI s a)) ∧ Below w.heap.size w w' := by
  by_cases h : s < 1 ∨ pw a = false
  · have e : ofI s a = -1 := by
      rcases h with h | h
      · simp [ofI, show ¬ 1 ≤ s by omega]
      · simp [ofI, h]
    rw [e]
    exact (of_no s a w h1 h2 h).mono fun e w' ⟨he, hw⟩ => ⟨he, hw ▸ Below.refl _ _⟩
  · have hp : pw a = true := by simpa using fun hh => h (.inr hh)
    have e : ofI s a = ofR s a 4 := by simp [ofI, hp, show 1 ≤ s by omega]
    rw [e]
    exact of_yes s a w h1 h2 (by omega) hp
end Go.Proofs.Ytjbcffcjepkbgaa
