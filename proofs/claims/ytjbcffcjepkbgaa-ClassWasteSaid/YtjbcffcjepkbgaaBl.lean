/- Class.Block by its numbers. Condition: the offset fits an int. -/
import Derived.Test.YtjbcffcjepkbgaaCl
namespace Go.Proofs.Ytjbcffcjepkbgaa
open Go.RowKit

set_option maxHeartbeats 400000 in
theorem block_0 (off : Int) (w : World) (h1 : 0 ≤ off) (h2 : off ≤ 9223372036854775807) :
    Calls Try.prog 10 #[.int .i64 0, .int .i64 off] w fun e w' => e = .returned (.tuple #[.int .i64 (bk 0 off), .bool (bo 0 off)]) ∧ Below w.heap.size w w' := by
  have i0 := ix0
  go_enter Try.func10, Try.ntmps10
  go_wp2_with fail
  refine (table_any _).mono ?_
  rintro e w1 ⟨rfl, hB⟩
  have hz := hB.size
  go_wp2
  all_goals
    go_ret2
    refine ⟨ret_ib ?_ ?_, hB.alloc hz _⟩
    all_goals (simp [bk, bo, szI, blI, *] <;> omega)

set_option maxHeartbeats 400000 in
theorem block_1 (off : Int) (w : World) (h1 : 0 ≤ off) (h2 : off ≤ 9223372036854775807) :
    Calls Try.prog 10 #[.int .i64 1, .int .i64 off] w fun e w' => e = .returned (.tuple #[.int .i64 (bk 1 off), .bool (bo 1 off)]) ∧ Below w.heap.size w w' := by
  have i0 := ix1
  go_enter Try.func10, Try.ntmps10
  go_wp2_with fail
  refine (table_any _).mono ?_
  rintro e w1 ⟨rfl, hB⟩
  have hz := hB.size
  go_wp2
  all_goals
    go_ret2
    refine ⟨ret_ib ?_ ?_, hB.alloc hz _⟩
    all_goals (simp [bk, bo, szI, blI, *] <;> omega)

set_option maxHeartbeats 400000 in
theorem block_2 (off : Int) (w : World) (h1 : 0 ≤ off) (h2 : off ≤ 9223372036854775807) :
    Calls Try.prog 10 #[.int .i64 2, .int .i64 off] w fun e w' => e = .returned (.tuple #[.int .i64 (bk 2 off), .bool (bo 2 off)]) ∧ Below w.heap.size w w' := by
  have i0 := ix2
  go_enter Try.func10, Try.ntmps10
  go_wp2_with fail
  refine (table_any _).mono ?_
  rintro e w1 ⟨rfl, hB⟩
  have hz := hB.size
  go_wp2
  all_goals
    go_ret2
    refine ⟨ret_ib ?_ ?_, hB.alloc hz _⟩
    all_goals (simp [bk, bo, szI, blI, *] <;> omega)

set_option maxHeartbeats 400000 in
theorem block_3 (off : Int) (w : World) (h1 : 0 ≤ off) (h2 : off ≤ 9223372036854775807) :
    Calls Try.prog 10 #[.int .i64 3, .int .i64 off] w fun e w' => e = .returned (.tuple #[.int .i64 (bk 3 off), .bool (bo 3 off)]) ∧ Below w.heap.size w w' := by
  have i0 := ix3
  go_enter Try.func10, Try.ntmps10
  go_wp2_with fail
  refine (table_any _).mono ?_
  rintro e w1 ⟨rfl, hB⟩
  have hz := hB.size
  go_wp2
  all_goals
    go_ret2
    refine ⟨ret_ib ?_ ?_, hB.alloc hz _⟩
    all_goals (simp [bk, bo, szI, blI, *] <;> omega)

theorem block_any (c off : Int) (w : World) (h2 : off ≤ 9223372036854775807) :
    Calls Try.prog 10 #[.int .i64 c, .int .i64 off] w fun e w' => e = .returned (.tuple #[.int .i64 (bk c off), .bool (bo c off)]) ∧ Below w.heap.size w w' := by
  by_cases h : c < 0 ∨ 4 ≤ c ∨ off < 0
  · have hb : bo c off = false := by
      simp only [bo, Bool.and_eq_false_iff, decide_eq_false_iff_not]
      omega
    have hk : bk c off = 0 := by simp [bk, hb]
    rw [hb, hk]
    exact block_no c off w h
  · rcases (show c = 0 ∨ c = 1 ∨ c = 2 ∨ c = 3 by omega) with rfl | rfl | rfl | rfl
    · exact block_0 off w (by omega) h2
    · exact block_1 off w (by omega) h2
    · exact block_2 off w (by omega) h2
    · exact block_3 off w (by omega) h2
end Go.Proofs.Ytjbcffcjepkbgaa
