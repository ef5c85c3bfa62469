/- The geometry's small functions by their numbers. Condition: the numbers fit their kinds. -/
import Derived.Test.YtjdmchfneaebpaaQt
import Derived.WalkSpells
import Derived.WalkLawsBesides
import Derived.Handy
import Derived.Lib.Hide
namespace Go.Proofs.Ytjdmchfneaebpaa
open Go.RowKit
set_option linter.unusedVariables false

/-- a geometry of any numbers -/
def gb (n t : Int) (c : Nat → Int) : Array Value :=
  #[.int .i64 n, .int .i64 t, .int .i64 (c 0), .int .i64 (c 1), .int .i64 (c 2), .int .i64 (c 3), .int .i64 (c 4), .int .i64 (c 5), .int .i64 (c 6), .int .i64 (c 7), .int .i64 (c 8), .int .i64 (c 9), .int .i64 (c 10), .int .i64 (c 11), .int .i64 (c 12), .int .i64 (c 13), .int .i64 (c 14), .int .i64 (c 15), .int .i64 (c 16), .int .i64 (c 17), .int .i64 (c 18), .int .i64 (c 19)]

theorem words_any (n t : Int) (c : Nat → Int) (w : World) :
    Calls Try.prog 26 #[.agg (gb n t c)] w fun e w' => e = .returned (.int .i64 (c 19)) ∧ Below w.heap.size w w' := by
  unfold gb
  go_enter Try.func26, Try.ntmps26
  go_wp2_with fail
  go_ret
  exact ⟨rfl, (Below.refl _ w).alloc (Nat.le_refl _) _⟩
theorem pages_any (n t : Int) (c : Nat → Int) (w : World) :
    Calls Try.prog 34 #[.agg (gb n t c)] w fun e w' => e = .returned (.int .i64 n) ∧ Below w.heap.size w w' := by
  unfold gb
  go_enter Try.func34, Try.ntmps34
  go_wp2_with fail
  go_ret
  exact ⟨rfl, (Below.refl _ w).alloc (Nat.le_refl _) _⟩
theorem threads_any (n t : Int) (c : Nat → Int) (w : World) :
    Calls Try.prog 35 #[.agg (gb n t c)] w fun e w' => e = .returned (.int .i64 t) ∧ Below w.heap.size w w' := by
  unfold gb
  go_enter Try.func35, Try.ntmps35
  go_wp2_with fail
  go_ret
  exact ⟨rfl, (Below.refl _ w).alloc (Nat.le_refl _) _⟩
theorem room_any (n t : Int) (c : Nat → Int) (w : World) (h0 : 0 ≤ t) (h1 : t ≤ 64) :
    Calls Try.prog 31 #[.agg (gb n t c)] w fun e w' => e = .returned (.int .i64 (2 * t + 2)) ∧ Below w.heap.size w w' := by
  unfold gb
  go_enter Try.func31, Try.ntmps31
  go_wp2_with fail
  go_ret
  exact ⟨rfl, (Below.refl _ w).alloc (Nat.le_refl _) _⟩

theorem ret_int {k : IntKind} {a b : Int} (h : a = b) : Ending.returned (.int k a) = .returned (.int k b) := by rw [h]
/-- a number of a region that begins at p and ends ahead of q -/
def atv (p q k : Int) : Int := if k < 0 ∨ q - p ≤ k then -1 else p + k
/-- a number, and one of so many within it -/
def inv (n k m : Int) : Int := if n < 0 ∨ 1073741824 < n ∨ k < 0 ∨ m ≤ k then -1 else n * m + k

theorem at_0 (n t k : Int) (c : Nat → Int) (w : World) (p0 : 0 ≤ c 0) (p1 : c 0 ≤ 1000000) (q0 : 0 ≤ c 1) (q1 : c 1 ≤ 1000000) :
    Calls Try.prog 33 #[.agg (gb n t c), .int .i64 0, .int .i64 k] w fun e w' => e = .returned (.int .i64 (atv (c 0) (c 1) k)) ∧ Below w.heap.size w w' := by
  unfold gb
  generalize hp : c 0 = p at *
  generalize hq : c 1 = q at *
  clear hp hq
  go_enter Try.func33, Try.ntmps33
  go_wp2_with fail
  generalize hW : World.alloc w _ = W
  have hB : Below w.heap.size w W := hW ▸ (Below.refl _ w).alloc (Nat.le_refl _) _
  have A : At W w.heap.size #[.int .i64 n, .int .i64 t, .int .i64 p, .int .i64 q, .int .i64 (c 2), .int .i64 (c 3), .int .i64 (c 4), .int .i64 (c 5), .int .i64 (c 6), .int .i64 (c 7), .int .i64 (c 8), .int .i64 (c 9), .int .i64 (c 10), .int .i64 (c 11), .int .i64 (c 12), .int .i64 (c 13), .int .i64 (c 14), .int .i64 (c 15), .int .i64 (c 16), .int .i64 (c 17), .int .i64 (c 18), .int .i64 (c 19)] 25 := hW ▸ At.last w _ 25
  clear hW
  have q0 := bel_cell (A.cell 2 rfl)
  have q1 := bel_cell (A.cell 3 rfl)
  by_cases k0 : k < 0
  · have z0 : decide (k < 0) = true := decide_eq_true k0
    refine region_below (by kernel_rfl) (by kernel_rfl) ?_
    repeat (go_big_quiet_step (fail))
    refine wpQuiet_nil ?_
    rintro w5 ⟨s, rfl⟩
    go_wp2_with fail
    go_ret
    exact ⟨ret_int (by unfold atv; rw [if_pos (Or.inl k0)]), bnext hB s.2⟩
  · have z0 : decide (k < 0) = false := decide_eq_false k0
    by_cases k1 : q - p ≤ k
    · have z1 : decide (k ≥ q - p) = true := decide_eq_true k1
      have z2 : decide (q - p ≤ k) = true := decide_eq_true k1
      refine region_below (by kernel_rfl) (by kernel_rfl) ?_
      repeat (go_big_quiet_step (fail))
      refine wpQuiet_nil ?_
      rintro w5 ⟨s, rfl⟩
      go_wp2_with fail
      go_ret
      exact ⟨ret_int (by unfold atv; rw [if_pos (Or.inr k1)]), bnext hB s.2⟩
    · have z1 : decide (k ≥ q - p) = false := decide_eq_false k1
      have z2 : decide (q - p ≤ k) = false := decide_eq_false k1
      refine region_below (by kernel_rfl) (by kernel_rfl) ?_
      repeat (go_big_quiet_step (fail))
      refine wpQuiet_nil ?_
      rintro w5 ⟨s, rfl⟩
      have q2 := q0 s
      go_wp2_with fail
      go_ret
      exact ⟨ret_int (by unfold atv; rw [if_neg (by omega)]), bnext hB s.2⟩

theorem at_1 (n t k : Int) (c : Nat → Int) (w : World) (p0 : 0 ≤ c 1) (p1 : c 1 ≤ 1000000) (q0 : 0 ≤ c 2) (q1 : c 2 ≤ 1000000) :
    Calls Try.prog 33 #[.agg (gb n t c), .int .i64 1, .int .i64 k] w fun e w' => e = .returned (.int .i64 (atv (c 1) (c 2) k)) ∧ Below w.heap.size w w' := by
  unfold gb
  generalize hp : c 1 = p at *
  generalize hq : c 2 = q at *
  clear hp hq
  go_enter Try.func33, Try.ntmps33
  go_wp2_with fail
  generalize hW : World.alloc w _ = W
  have hB : Below w.heap.size w W := hW ▸ (Below.refl _ w).alloc (Nat.le_refl _) _
  have A : At W w.heap.size #[.int .i64 n, .int .i64 t, .int .i64 (c 0), .int .i64 p, .int .i64 q, .int .i64 (c 3), .int .i64 (c 4), .int .i64 (c 5), .int .i64 (c 6), .int .i64 (c 7), .int .i64 (c 8), .int .i64 (c 9), .int .i64 (c 10), .int .i64 (c 11), .int .i64 (c 12), .int .i64 (c 13), .int .i64 (c 14), .int .i64 (c 15), .int .i64 (c 16), .int .i64 (c 17), .int .i64 (c 18), .int .i64 (c 19)] 25 := hW ▸ At.last w _ 25
  clear hW
  have q0 := bel_cell (A.cell 3 rfl)
  have q1 := bel_cell (A.cell 4 rfl)
  by_cases k0 : k < 0
  · have z0 : decide (k < 0) = true := decide_eq_true k0
    refine region_below (by kernel_rfl) (by kernel_rfl) ?_
    repeat (go_big_quiet_step (fail))
    refine wpQuiet_nil ?_
    rintro w5 ⟨s, rfl⟩
    go_wp2_with fail
    go_ret
    exact ⟨ret_int (by unfold atv; rw [if_pos (Or.inl k0)]), bnext hB s.2⟩
  · have z0 : decide (k < 0) = false := decide_eq_false k0
    by_cases k1 : q - p ≤ k
    · have z1 : decide (k ≥ q - p) = true := decide_eq_true k1
      have z2 : decide (q - p ≤ k) = true := decide_eq_true k1
      refine region_below (by kernel_rfl) (by kernel_rfl) ?_
      repeat (go_big_quiet_step (fail))
      refine wpQuiet_nil ?_
      rintro w5 ⟨s, rfl⟩
      go_wp2_with fail
      go_ret
      exact ⟨ret_int (by unfold atv; rw [if_pos (Or.inr k1)]), bnext hB s.2⟩
    · have z1 : decide (k ≥ q - p) = false := decide_eq_false k1
      have z2 : decide (q - p ≤ k) = false := decide_eq_false k1
      refine region_below (by kernel_rfl) (by kernel_rfl) ?_
      repeat (go_big_quiet_step (fail))
      refine wpQuiet_nil ?_
      rintro w5 ⟨s, rfl⟩
      have q2 := q0 s
      go_wp2_with fail
      go_ret
      exact ⟨ret_int (by unfold atv; rw [if_neg (by omega)]), bnext hB s.2⟩

theorem at_2 (n t k : Int) (c : Nat → Int) (w : World) (p0 : 0 ≤ c 2) (p1 : c 2 ≤ 1000000) (q0 : 0 ≤ c 3) (q1 : c 3 ≤ 1000000) :
    Calls Try.prog 33 #[.agg (gb n t c), .int .i64 2, .int .i64 k] w fun e w' => e = .returned (.int .i64 (atv (c 2) (c 3) k)) ∧ Below w.heap.size w w' := by
  unfold gb
  generalize hp : c 2 = p at *
  generalize hq : c 3 = q at *
  clear hp hq
  go_enter Try.func33, Try.ntmps33
  go_wp2_with fail
  generalize hW : World.alloc w _ = W
  have hB : Below w.heap.size w W := hW ▸ (Below.refl _ w).alloc (Nat.le_refl _) _
  have A : At W w.heap.size #[.int .i64 n, .int .i64 t, .int .i64 (c 0), .int .i64 (c 1), .int .i64 p, .int .i64 q, .int .i64 (c 4), .int .i64 (c 5), .int .i64 (c 6), .int .i64 (c 7), .int .i64 (c 8), .int .i64 (c 9), .int .i64 (c 10), .int .i64 (c 11), .int .i64 (c 12), .int .i64 (c 13), .int .i64 (c 14), .int .i64 (c 15), .int .i64 (c 16), .int .i64 (c 17), .int .i64 (c 18), .int .i64 (c 19)] 25 := hW ▸ At.last w _ 25
  clear hW
  have q0 := bel_cell (A.cell 4 rfl)
  have q1 := bel_cell (A.cell 5 rfl)
  by_cases k0 : k < 0
  · have z0 : decide (k < 0) = true := decide_eq_true k0
    refine region_below (by kernel_rfl) (by kernel_rfl) ?_
    repeat (go_big_quiet_step (fail))
    refine wpQuiet_nil ?_
    rintro w5 ⟨s, rfl⟩
    go_wp2_with fail
    go_ret
    exact ⟨ret_int (by unfold atv; rw [if_pos (Or.inl k0)]), bnext hB s.2⟩
  · have z0 : decide (k < 0) = false := decide_eq_false k0
    by_cases k1 : q - p ≤ k
    · have z1 : decide (k ≥ q - p) = true := decide_eq_true k1
      have z2 : decide (q - p ≤ k) = true := decide_eq_true k1
      refine region_below (by kernel_rfl) (by kernel_rfl) ?_
      repeat (go_big_quiet_step (fail))
      refine wpQuiet_nil ?_
      rintro w5 ⟨s, rfl⟩
      go_wp2_with fail
      go_ret
      exact ⟨ret_int (by unfold atv; rw [if_pos (Or.inr k1)]), bnext hB s.2⟩
    · have z1 : decide (k ≥ q - p) = false := decide_eq_false k1
      have z2 : decide (q - p ≤ k) = false := decide_eq_false k1
      refine region_below (by kernel_rfl) (by kernel_rfl) ?_
      repeat (go_big_quiet_step (fail))
      refine wpQuiet_nil ?_
      rintro w5 ⟨s, rfl⟩
      have q2 := q0 s
      go_wp2_with fail
      go_ret
      exact ⟨ret_int (by unfold atv; rw [if_neg (by omega)]), bnext hB s.2⟩

theorem at_3 (n t k : Int) (c : Nat → Int) (w : World) (p0 : 0 ≤ c 3) (p1 : c 3 ≤ 1000000) (q0 : 0 ≤ c 4) (q1 : c 4 ≤ 1000000) :
    Calls Try.prog 33 #[.agg (gb n t c), .int .i64 3, .int .i64 k] w fun e w' => e = .returned (.int .i64 (atv (c 3) (c 4) k)) ∧ Below w.heap.size w w' := by
  unfold gb
  generalize hp : c 3 = p at *
  generalize hq : c 4 = q at *
  clear hp hq
  go_enter Try.func33, Try.ntmps33
  go_wp2_with fail
  generalize hW : World.alloc w _ = W
  have hB : Below w.heap.size w W := hW ▸ (Below.refl _ w).alloc (Nat.le_refl _) _
  have A : At W w.heap.size #[.int .i64 n, .int .i64 t, .int .i64 (c 0), .int .i64 (c 1), .int .i64 (c 2), .int .i64 p, .int .i64 q, .int .i64 (c 5), .int .i64 (c 6), .int .i64 (c 7), .int .i64 (c 8), .int .i64 (c 9), .int .i64 (c 10), .int .i64 (c 11), .int .i64 (c 12), .int .i64 (c 13), .int .i64 (c 14), .int .i64 (c 15), .int .i64 (c 16), .int .i64 (c 17), .int .i64 (c 18), .int .i64 (c 19)] 25 := hW ▸ At.last w _ 25
  clear hW
  have q0 := bel_cell (A.cell 5 rfl)
  have q1 := bel_cell (A.cell 6 rfl)
  by_cases k0 : k < 0
  · have z0 : decide (k < 0) = true := decide_eq_true k0
    refine region_below (by kernel_rfl) (by kernel_rfl) ?_
    repeat (go_big_quiet_step (fail))
    refine wpQuiet_nil ?_
    rintro w5 ⟨s, rfl⟩
    go_wp2_with fail
    go_ret
    exact ⟨ret_int (by unfold atv; rw [if_pos (Or.inl k0)]), bnext hB s.2⟩
  · have z0 : decide (k < 0) = false := decide_eq_false k0
    by_cases k1 : q - p ≤ k
    · have z1 : decide (k ≥ q - p) = true := decide_eq_true k1
      have z2 : decide (q - p ≤ k) = true := decide_eq_true k1
      refine region_below (by kernel_rfl) (by kernel_rfl) ?_
      repeat (go_big_quiet_step (fail))
      refine wpQuiet_nil ?_
      rintro w5 ⟨s, rfl⟩
      go_wp2_with fail
      go_ret
      exact ⟨ret_int (by unfold atv; rw [if_pos (Or.inr k1)]), bnext hB s.2⟩
    · have z1 : decide (k ≥ q - p) = false := decide_eq_false k1
      have z2 : decide (q - p ≤ k) = false := decide_eq_false k1
      refine region_below (by kernel_rfl) (by kernel_rfl) ?_
      repeat (go_big_quiet_step (fail))
      refine wpQuiet_nil ?_
      rintro w5 ⟨s, rfl⟩
      have q2 := q0 s
      go_wp2_with fail
      go_ret
      exact ⟨ret_int (by unfold atv; rw [if_neg (by omega)]), bnext hB s.2⟩

theorem at_4 (n t k : Int) (c : Nat → Int) (w : World) (p0 : 0 ≤ c 4) (p1 : c 4 ≤ 1000000) (q0 : 0 ≤ c 5) (q1 : c 5 ≤ 1000000) :
    Calls Try.prog 33 #[.agg (gb n t c), .int .i64 4, .int .i64 k] w fun e w' => e = .returned (.int .i64 (atv (c 4) (c 5) k)) ∧ Below w.heap.size w w' := by
  unfold gb
  generalize hp : c 4 = p at *
  generalize hq : c 5 = q at *
  clear hp hq
  go_enter Try.func33, Try.ntmps33
  go_wp2_with fail
  generalize hW : World.alloc w _ = W
  have hB : Below w.heap.size w W := hW ▸ (Below.refl _ w).alloc (Nat.le_refl _) _
  have A : At W w.heap.size #[.int .i64 n, .int .i64 t, .int .i64 (c 0), .int .i64 (c 1), .int .i64 (c 2), .int .i64 (c 3), .int .i64 p, .int .i64 q, .int .i64 (c 6), .int .i64 (c 7), .int .i64 (c 8), .int .i64 (c 9), .int .i64 (c 10), .int .i64 (c 11), .int .i64 (c 12), .int .i64 (c 13), .int .i64 (c 14), .int .i64 (c 15), .int .i64 (c 16), .int .i64 (c 17), .int .i64 (c 18), .int .i64 (c 19)] 25 := hW ▸ At.last w _ 25
  clear hW
  have q0 := bel_cell (A.cell 6 rfl)
  have q1 := bel_cell (A.cell 7 rfl)
  by_cases k0 : k < 0
  · have z0 : decide (k < 0) = true := decide_eq_true k0
    refine region_below (by kernel_rfl) (by kernel_rfl) ?_
    repeat (go_big_quiet_step (fail))
    refine wpQuiet_nil ?_
    rintro w5 ⟨s, rfl⟩
    go_wp2_with fail
    go_ret
    exact ⟨ret_int (by unfold atv; rw [if_pos (Or.inl k0)]), bnext hB s.2⟩
  · have z0 : decide (k < 0) = false := decide_eq_false k0
    by_cases k1 : q - p ≤ k
    · have z1 : decide (k ≥ q - p) = true := decide_eq_true k1
      have z2 : decide (q - p ≤ k) = true := decide_eq_true k1
      refine region_below (by kernel_rfl) (by kernel_rfl) ?_
      repeat (go_big_quiet_step (fail))
      refine wpQuiet_nil ?_
      rintro w5 ⟨s, rfl⟩
      go_wp2_with fail
      go_ret
      exact ⟨ret_int (by unfold atv; rw [if_pos (Or.inr k1)]), bnext hB s.2⟩
    · have z1 : decide (k ≥ q - p) = false := decide_eq_false k1
      have z2 : decide (q - p ≤ k) = false := decide_eq_false k1
      refine region_below (by kernel_rfl) (by kernel_rfl) ?_
      repeat (go_big_quiet_step (fail))
      refine wpQuiet_nil ?_
      rintro w5 ⟨s, rfl⟩
      have q2 := q0 s
      go_wp2_with fail
      go_ret
      exact ⟨ret_int (by unfold atv; rw [if_neg (by omega)]), bnext hB s.2⟩

theorem at_5 (n t k : Int) (c : Nat → Int) (w : World) (p0 : 0 ≤ c 5) (p1 : c 5 ≤ 1000000) (q0 : 0 ≤ c 6) (q1 : c 6 ≤ 1000000) :
    Calls Try.prog 33 #[.agg (gb n t c), .int .i64 5, .int .i64 k] w fun e w' => e = .returned (.int .i64 (atv (c 5) (c 6) k)) ∧ Below w.heap.size w w' := by
  unfold gb
  generalize hp : c 5 = p at *
  generalize hq : c 6 = q at *
  clear hp hq
  go_enter Try.func33, Try.ntmps33
  go_wp2_with fail
  generalize hW : World.alloc w _ = W
  have hB : Below w.heap.size w W := hW ▸ (Below.refl _ w).alloc (Nat.le_refl _) _
  have A : At W w.heap.size #[.int .i64 n, .int .i64 t, .int .i64 (c 0), .int .i64 (c 1), .int .i64 (c 2), .int .i64 (c 3), .int .i64 (c 4), .int .i64 p, .int .i64 q, .int .i64 (c 7), .int .i64 (c 8), .int .i64 (c 9), .int .i64 (c 10), .int .i64 (c 11), .int .i64 (c 12), .int .i64 (c 13), .int .i64 (c 14), .int .i64 (c 15), .int .i64 (c 16), .int .i64 (c 17), .int .i64 (c 18), .int .i64 (c 19)] 25 := hW ▸ At.last w _ 25
  clear hW
  have q0 := bel_cell (A.cell 7 rfl)
  have q1 := bel_cell (A.cell 8 rfl)
  by_cases k0 : k < 0
  · have z0 : decide (k < 0) = true := decide_eq_true k0
    refine region_below (by kernel_rfl) (by kernel_rfl) ?_
    repeat (go_big_quiet_step (fail))
    refine wpQuiet_nil ?_
    rintro w5 ⟨s, rfl⟩
    go_wp2_with fail
    go_ret
    exact ⟨ret_int (by unfold atv; rw [if_pos (Or.inl k0)]), bnext hB s.2⟩
  · have z0 : decide (k < 0) = false := decide_eq_false k0
    by_cases k1 : q - p ≤ k
    · have z1 : decide (k ≥ q - p) = true := decide_eq_true k1
      have z2 : decide (q - p ≤ k) = true := decide_eq_true k1
      refine region_below (by kernel_rfl) (by kernel_rfl) ?_
      repeat (go_big_quiet_step (fail))
      refine wpQuiet_nil ?_
      rintro w5 ⟨s, rfl⟩
      go_wp2_with fail
      go_ret
      exact ⟨ret_int (by unfold atv; rw [if_pos (Or.inr k1)]), bnext hB s.2⟩
    · have z1 : decide (k ≥ q - p) = false := decide_eq_false k1
      have z2 : decide (q - p ≤ k) = false := decide_eq_false k1
      refine region_below (by kernel_rfl) (by kernel_rfl) ?_
      repeat (go_big_quiet_step (fail))
      refine wpQuiet_nil ?_
      rintro w5 ⟨s, rfl⟩
      have q2 := q0 s
      go_wp2_with fail
      go_ret
      exact ⟨ret_int (by unfold atv; rw [if_neg (by omega)]), bnext hB s.2⟩

theorem at_6 (n t k : Int) (c : Nat → Int) (w : World) (p0 : 0 ≤ c 6) (p1 : c 6 ≤ 1000000) (q0 : 0 ≤ c 7) (q1 : c 7 ≤ 1000000) :
    Calls Try.prog 33 #[.agg (gb n t c), .int .i64 6, .int .i64 k] w fun e w' => e = .returned (.int .i64 (atv (c 6) (c 7) k)) ∧ Below w.heap.size w w' := by
  unfold gb
  generalize hp : c 6 = p at *
  generalize hq : c 7 = q at *
  clear hp hq
  go_enter Try.func33, Try.ntmps33
  go_wp2_with fail
  generalize hW : World.alloc w _ = W
  have hB : Below w.heap.size w W := hW ▸ (Below.refl _ w).alloc (Nat.le_refl _) _
  have A : At W w.heap.size #[.int .i64 n, .int .i64 t, .int .i64 (c 0), .int .i64 (c 1), .int .i64 (c 2), .int .i64 (c 3), .int .i64 (c 4), .int .i64 (c 5), .int .i64 p, .int .i64 q, .int .i64 (c 8), .int .i64 (c 9), .int .i64 (c 10), .int .i64 (c 11), .int .i64 (c 12), .int .i64 (c 13), .int .i64 (c 14), .int .i64 (c 15), .int .i64 (c 16), .int .i64 (c 17), .int .i64 (c 18), .int .i64 (c 19)] 25 := hW ▸ At.last w _ 25
  clear hW
  have q0 := bel_cell (A.cell 8 rfl)
  have q1 := bel_cell (A.cell 9 rfl)
  by_cases k0 : k < 0
  · have z0 : decide (k < 0) = true := decide_eq_true k0
    refine region_below (by kernel_rfl) (by kernel_rfl) ?_
    repeat (go_big_quiet_step (fail))
    refine wpQuiet_nil ?_
    rintro w5 ⟨s, rfl⟩
    go_wp2_with fail
    go_ret
    exact ⟨ret_int (by unfold atv; rw [if_pos (Or.inl k0)]), bnext hB s.2⟩
  · have z0 : decide (k < 0) = false := decide_eq_false k0
    by_cases k1 : q - p ≤ k
    · have z1 : decide (k ≥ q - p) = true := decide_eq_true k1
      have z2 : decide (q - p ≤ k) = true := decide_eq_true k1
      refine region_below (by kernel_rfl) (by kernel_rfl) ?_
      repeat (go_big_quiet_step (fail))
      refine wpQuiet_nil ?_
      rintro w5 ⟨s, rfl⟩
      go_wp2_with fail
      go_ret
      exact ⟨ret_int (by unfold atv; rw [if_pos (Or.inr k1)]), bnext hB s.2⟩
    · have z1 : decide (k ≥ q - p) = false := decide_eq_false k1
      have z2 : decide (q - p ≤ k) = false := decide_eq_false k1
      refine region_below (by kernel_rfl) (by kernel_rfl) ?_
      repeat (go_big_quiet_step (fail))
      refine wpQuiet_nil ?_
      rintro w5 ⟨s, rfl⟩
      have q2 := q0 s
      go_wp2_with fail
      go_ret
      exact ⟨ret_int (by unfold atv; rw [if_neg (by omega)]), bnext hB s.2⟩

theorem at_7 (n t k : Int) (c : Nat → Int) (w : World) (p0 : 0 ≤ c 7) (p1 : c 7 ≤ 1000000) (q0 : 0 ≤ c 8) (q1 : c 8 ≤ 1000000) :
    Calls Try.prog 33 #[.agg (gb n t c), .int .i64 7, .int .i64 k] w fun e w' => e = .returned (.int .i64 (atv (c 7) (c 8) k)) ∧ Below w.heap.size w w' := by
  unfold gb
  generalize hp : c 7 = p at *
  generalize hq : c 8 = q at *
  clear hp hq
  go_enter Try.func33, Try.ntmps33
  go_wp2_with fail
  generalize hW : World.alloc w _ = W
  have hB : Below w.heap.size w W := hW ▸ (Below.refl _ w).alloc (Nat.le_refl _) _
  have A : At W w.heap.size #[.int .i64 n, .int .i64 t, .int .i64 (c 0), .int .i64 (c 1), .int .i64 (c 2), .int .i64 (c 3), .int .i64 (c 4), .int .i64 (c 5), .int .i64 (c 6), .int .i64 p, .int .i64 q, .int .i64 (c 9), .int .i64 (c 10), .int .i64 (c 11), .int .i64 (c 12), .int .i64 (c 13), .int .i64 (c 14), .int .i64 (c 15), .int .i64 (c 16), .int .i64 (c 17), .int .i64 (c 18), .int .i64 (c 19)] 25 := hW ▸ At.last w _ 25
  clear hW
  have q0 := bel_cell (A.cell 9 rfl)
  have q1 := bel_cell (A.cell 10 rfl)
  by_cases k0 : k < 0
  · have z0 : decide (k < 0) = true := decide_eq_true k0
    refine region_below (by kernel_rfl) (by kernel_rfl) ?_
    repeat (go_big_quiet_step (fail))
    refine wpQuiet_nil ?_
    rintro w5 ⟨s, rfl⟩
    go_wp2_with fail
    go_ret
    exact ⟨ret_int (by unfold atv; rw [if_pos (Or.inl k0)]), bnext hB s.2⟩
  · have z0 : decide (k < 0) = false := decide_eq_false k0
    by_cases k1 : q - p ≤ k
    · have z1 : decide (k ≥ q - p) = true := decide_eq_true k1
      have z2 : decide (q - p ≤ k) = true := decide_eq_true k1
      refine region_below (by kernel_rfl) (by kernel_rfl) ?_
      repeat (go_big_quiet_step (fail))
      refine wpQuiet_nil ?_
      rintro w5 ⟨s, rfl⟩
      go_wp2_with fail
      go_ret
      exact ⟨ret_int (by unfold atv; rw [if_pos (Or.inr k1)]), bnext hB s.2⟩
    · have z1 : decide (k ≥ q - p) = false := decide_eq_false k1
      have z2 : decide (q - p ≤ k) = false := decide_eq_false k1
      refine region_below (by kernel_rfl) (by kernel_rfl) ?_
      repeat (go_big_quiet_step (fail))
      refine wpQuiet_nil ?_
      rintro w5 ⟨s, rfl⟩
      have q2 := q0 s
      go_wp2_with fail
      go_ret
      exact ⟨ret_int (by unfold atv; rw [if_neg (by omega)]), bnext hB s.2⟩

theorem at_8 (n t k : Int) (c : Nat → Int) (w : World) (p0 : 0 ≤ c 8) (p1 : c 8 ≤ 1000000) (q0 : 0 ≤ c 9) (q1 : c 9 ≤ 1000000) :
    Calls Try.prog 33 #[.agg (gb n t c), .int .i64 8, .int .i64 k] w fun e w' => e = .returned (.int .i64 (atv (c 8) (c 9) k)) ∧ Below w.heap.size w w' := by
  unfold gb
  generalize hp : c 8 = p at *
  generalize hq : c 9 = q at *
  clear hp hq
  go_enter Try.func33, Try.ntmps33
  go_wp2_with fail
  generalize hW : World.alloc w _ = W
  have hB : Below w.heap.size w W := hW ▸ (Below.refl _ w).alloc (Nat.le_refl _) _
  have A : At W w.heap.size #[.int .i64 n, .int .i64 t, .int .i64 (c 0), .int .i64 (c 1), .int .i64 (c 2), .int .i64 (c 3), .int .i64 (c 4), .int .i64 (c 5), .int .i64 (c 6), .int .i64 (c 7), .int .i64 p, .int .i64 q, .int .i64 (c 10), .int .i64 (c 11), .int .i64 (c 12), .int .i64 (c 13), .int .i64 (c 14), .int .i64 (c 15), .int .i64 (c 16), .int .i64 (c 17), .int .i64 (c 18), .int .i64 (c 19)] 25 := hW ▸ At.last w _ 25
  clear hW
  have q0 := bel_cell (A.cell 10 rfl)
  have q1 := bel_cell (A.cell 11 rfl)
  by_cases k0 : k < 0
  · have z0 : decide (k < 0) = true := decide_eq_true k0
    refine region_below (by kernel_rfl) (by kernel_rfl) ?_
    repeat (go_big_quiet_step (fail))
    refine wpQuiet_nil ?_
    rintro w5 ⟨s, rfl⟩
    go_wp2_with fail
    go_ret
    exact ⟨ret_int (by unfold atv; rw [if_pos (Or.inl k0)]), bnext hB s.2⟩
  · have z0 : decide (k < 0) = false := decide_eq_false k0
    by_cases k1 : q - p ≤ k
    · have z1 : decide (k ≥ q - p) = true := decide_eq_true k1
      have z2 : decide (q - p ≤ k) = true := decide_eq_true k1
      refine region_below (by kernel_rfl) (by kernel_rfl) ?_
      repeat (go_big_quiet_step (fail))
      refine wpQuiet_nil ?_
      rintro w5 ⟨s, rfl⟩
      go_wp2_with fail
      go_ret
      exact ⟨ret_int (by unfold atv; rw [if_pos (Or.inr k1)]), bnext hB s.2⟩
    · have z1 : decide (k ≥ q - p) = false := decide_eq_false k1
      have z2 : decide (q - p ≤ k) = false := decide_eq_false k1
      refine region_below (by kernel_rfl) (by kernel_rfl) ?_
      repeat (go_big_quiet_step (fail))
      refine wpQuiet_nil ?_
      rintro w5 ⟨s, rfl⟩
      have q2 := q0 s
      go_wp2_with fail
      go_ret
      exact ⟨ret_int (by unfold atv; rw [if_neg (by omega)]), bnext hB s.2⟩

theorem at_9 (n t k : Int) (c : Nat → Int) (w : World) (p0 : 0 ≤ c 9) (p1 : c 9 ≤ 1000000) (q0 : 0 ≤ c 10) (q1 : c 10 ≤ 1000000) :
    Calls Try.prog 33 #[.agg (gb n t c), .int .i64 9, .int .i64 k] w fun e w' => e = .returned (.int .i64 (atv (c 9) (c 10) k)) ∧ Below w.heap.size w w' := by
  unfold gb
  generalize hp : c 9 = p at *
  generalize hq : c 10 = q at *
  clear hp hq
  go_enter Try.func33, Try.ntmps33
  go_wp2_with fail
  generalize hW : World.alloc w _ = W
  have hB : Below w.heap.size w W := hW ▸ (Below.refl _ w).alloc (Nat.le_refl _) _
  have A : At W w.heap.size #[.int .i64 n, .int .i64 t, .int .i64 (c 0), .int .i64 (c 1), .int .i64 (c 2), .int .i64 (c 3), .int .i64 (c 4), .int .i64 (c 5), .int .i64 (c 6), .int .i64 (c 7), .int .i64 (c 8), .int .i64 p, .int .i64 q, .int .i64 (c 11), .int .i64 (c 12), .int .i64 (c 13), .int .i64 (c 14), .int .i64 (c 15), .int .i64 (c 16), .int .i64 (c 17), .int .i64 (c 18), .int .i64 (c 19)] 25 := hW ▸ At.last w _ 25
  clear hW
  have q0 := bel_cell (A.cell 11 rfl)
  have q1 := bel_cell (A.cell 12 rfl)
  by_cases k0 : k < 0
  · have z0 : decide (k < 0) = true := decide_eq_true k0
    refine region_below (by kernel_rfl) (by kernel_rfl) ?_
    repeat (go_big_quiet_step (fail))
    refine wpQuiet_nil ?_
    rintro w5 ⟨s, rfl⟩
    go_wp2_with fail
    go_ret
    exact ⟨ret_int (by unfold atv; rw [if_pos (Or.inl k0)]), bnext hB s.2⟩
  · have z0 : decide (k < 0) = false := decide_eq_false k0
    by_cases k1 : q - p ≤ k
    · have z1 : decide (k ≥ q - p) = true := decide_eq_true k1
      have z2 : decide (q - p ≤ k) = true := decide_eq_true k1
      refine region_below (by kernel_rfl) (by kernel_rfl) ?_
      repeat (go_big_quiet_step (fail))
      refine wpQuiet_nil ?_
      rintro w5 ⟨s, rfl⟩
      go_wp2_with fail
      go_ret
      exact ⟨ret_int (by unfold atv; rw [if_pos (Or.inr k1)]), bnext hB s.2⟩
    · have z1 : decide (k ≥ q - p) = false := decide_eq_false k1
      have z2 : decide (q - p ≤ k) = false := decide_eq_false k1
      refine region_below (by kernel_rfl) (by kernel_rfl) ?_
      repeat (go_big_quiet_step (fail))
      refine wpQuiet_nil ?_
      rintro w5 ⟨s, rfl⟩
      have q2 := q0 s
      go_wp2_with fail
      go_ret
      exact ⟨ret_int (by unfold atv; rw [if_neg (by omega)]), bnext hB s.2⟩

theorem at_10 (n t k : Int) (c : Nat → Int) (w : World) (p0 : 0 ≤ c 10) (p1 : c 10 ≤ 1000000) (q0 : 0 ≤ c 11) (q1 : c 11 ≤ 1000000) :
    Calls Try.prog 33 #[.agg (gb n t c), .int .i64 10, .int .i64 k] w fun e w' => e = .returned (.int .i64 (atv (c 10) (c 11) k)) ∧ Below w.heap.size w w' := by
  unfold gb
  generalize hp : c 10 = p at *
  generalize hq : c 11 = q at *
  clear hp hq
  go_enter Try.func33, Try.ntmps33
  go_wp2_with fail
  generalize hW : World.alloc w _ = W
  have hB : Below w.heap.size w W := hW ▸ (Below.refl _ w).alloc (Nat.le_refl _) _
  have A : At W w.heap.size #[.int .i64 n, .int .i64 t, .int .i64 (c 0), .int .i64 (c 1), .int .i64 (c 2), .int .i64 (c 3), .int .i64 (c 4), .int .i64 (c 5), .int .i64 (c 6), .int .i64 (c 7), .int .i64 (c 8), .int .i64 (c 9), .int .i64 p, .int .i64 q, .int .i64 (c 12), .int .i64 (c 13), .int .i64 (c 14), .int .i64 (c 15), .int .i64 (c 16), .int .i64 (c 17), .int .i64 (c 18), .int .i64 (c 19)] 25 := hW ▸ At.last w _ 25
  clear hW
  have q0 := bel_cell (A.cell 12 rfl)
  have q1 := bel_cell (A.cell 13 rfl)
  by_cases k0 : k < 0
  · have z0 : decide (k < 0) = true := decide_eq_true k0
    refine region_below (by kernel_rfl) (by kernel_rfl) ?_
    repeat (go_big_quiet_step (fail))
    refine wpQuiet_nil ?_
    rintro w5 ⟨s, rfl⟩
    go_wp2_with fail
    go_ret
    exact ⟨ret_int (by unfold atv; rw [if_pos (Or.inl k0)]), bnext hB s.2⟩
  · have z0 : decide (k < 0) = false := decide_eq_false k0
    by_cases k1 : q - p ≤ k
    · have z1 : decide (k ≥ q - p) = true := decide_eq_true k1
      have z2 : decide (q - p ≤ k) = true := decide_eq_true k1
      refine region_below (by kernel_rfl) (by kernel_rfl) ?_
      repeat (go_big_quiet_step (fail))
      refine wpQuiet_nil ?_
      rintro w5 ⟨s, rfl⟩
      go_wp2_with fail
      go_ret
      exact ⟨ret_int (by unfold atv; rw [if_pos (Or.inr k1)]), bnext hB s.2⟩
    · have z1 : decide (k ≥ q - p) = false := decide_eq_false k1
      have z2 : decide (q - p ≤ k) = false := decide_eq_false k1
      refine region_below (by kernel_rfl) (by kernel_rfl) ?_
      repeat (go_big_quiet_step (fail))
      refine wpQuiet_nil ?_
      rintro w5 ⟨s, rfl⟩
      have q2 := q0 s
      go_wp2_with fail
      go_ret
      exact ⟨ret_int (by unfold atv; rw [if_neg (by omega)]), bnext hB s.2⟩

theorem at_11 (n t k : Int) (c : Nat → Int) (w : World) (p0 : 0 ≤ c 11) (p1 : c 11 ≤ 1000000) (q0 : 0 ≤ c 12) (q1 : c 12 ≤ 1000000) :
    Calls Try.prog 33 #[.agg (gb n t c), .int .i64 11, .int .i64 k] w fun e w' => e = .returned (.int .i64 (atv (c 11) (c 12) k)) ∧ Below w.heap.size w w' := by
  unfold gb
  generalize hp : c 11 = p at *
  generalize hq : c 12 = q at *
  clear hp hq
  go_enter Try.func33, Try.ntmps33
  go_wp2_with fail
  generalize hW : World.alloc w _ = W
  have hB : Below w.heap.size w W := hW ▸ (Below.refl _ w).alloc (Nat.le_refl _) _
  have A : At W w.heap.size #[.int .i64 n, .int .i64 t, .int .i64 (c 0), .int .i64 (c 1), .int .i64 (c 2), .int .i64 (c 3), .int .i64 (c 4), .int .i64 (c 5), .int .i64 (c 6), .int .i64 (c 7), .int .i64 (c 8), .int .i64 (c 9), .int .i64 (c 10), .int .i64 p, .int .i64 q, .int .i64 (c 13), .int .i64 (c 14), .int .i64 (c 15), .int .i64 (c 16), .int .i64 (c 17), .int .i64 (c 18), .int .i64 (c 19)] 25 := hW ▸ At.last w _ 25
  clear hW
  have q0 := bel_cell (A.cell 13 rfl)
  have q1 := bel_cell (A.cell 14 rfl)
  by_cases k0 : k < 0
  · have z0 : decide (k < 0) = true := decide_eq_true k0
    refine region_below (by kernel_rfl) (by kernel_rfl) ?_
    repeat (go_big_quiet_step (fail))
    refine wpQuiet_nil ?_
    rintro w5 ⟨s, rfl⟩
    go_wp2_with fail
    go_ret
    exact ⟨ret_int (by unfold atv; rw [if_pos (Or.inl k0)]), bnext hB s.2⟩
  · have z0 : decide (k < 0) = false := decide_eq_false k0
    by_cases k1 : q - p ≤ k
    · have z1 : decide (k ≥ q - p) = true := decide_eq_true k1
      have z2 : decide (q - p ≤ k) = true := decide_eq_true k1
      refine region_below (by kernel_rfl) (by kernel_rfl) ?_
      repeat (go_big_quiet_step (fail))
      refine wpQuiet_nil ?_
      rintro w5 ⟨s, rfl⟩
      go_wp2_with fail
      go_ret
      exact ⟨ret_int (by unfold atv; rw [if_pos (Or.inr k1)]), bnext hB s.2⟩
    · have z1 : decide (k ≥ q - p) = false := decide_eq_false k1
      have z2 : decide (q - p ≤ k) = false := decide_eq_false k1
      refine region_below (by kernel_rfl) (by kernel_rfl) ?_
      repeat (go_big_quiet_step (fail))
      refine wpQuiet_nil ?_
      rintro w5 ⟨s, rfl⟩
      have q2 := q0 s
      go_wp2_with fail
      go_ret
      exact ⟨ret_int (by unfold atv; rw [if_neg (by omega)]), bnext hB s.2⟩

theorem at_12 (n t k : Int) (c : Nat → Int) (w : World) (p0 : 0 ≤ c 12) (p1 : c 12 ≤ 1000000) (q0 : 0 ≤ c 13) (q1 : c 13 ≤ 1000000) :
    Calls Try.prog 33 #[.agg (gb n t c), .int .i64 12, .int .i64 k] w fun e w' => e = .returned (.int .i64 (atv (c 12) (c 13) k)) ∧ Below w.heap.size w w' := by
  unfold gb
  generalize hp : c 12 = p at *
  generalize hq : c 13 = q at *
  clear hp hq
  go_enter Try.func33, Try.ntmps33
  go_wp2_with fail
  generalize hW : World.alloc w _ = W
  have hB : Below w.heap.size w W := hW ▸ (Below.refl _ w).alloc (Nat.le_refl _) _
  have A : At W w.heap.size #[.int .i64 n, .int .i64 t, .int .i64 (c 0), .int .i64 (c 1), .int .i64 (c 2), .int .i64 (c 3), .int .i64 (c 4), .int .i64 (c 5), .int .i64 (c 6), .int .i64 (c 7), .int .i64 (c 8), .int .i64 (c 9), .int .i64 (c 10), .int .i64 (c 11), .int .i64 p, .int .i64 q, .int .i64 (c 14), .int .i64 (c 15), .int .i64 (c 16), .int .i64 (c 17), .int .i64 (c 18), .int .i64 (c 19)] 25 := hW ▸ At.last w _ 25
  clear hW
  have q0 := bel_cell (A.cell 14 rfl)
  have q1 := bel_cell (A.cell 15 rfl)
  by_cases k0 : k < 0
  · have z0 : decide (k < 0) = true := decide_eq_true k0
    refine region_below (by kernel_rfl) (by kernel_rfl) ?_
    repeat (go_big_quiet_step (fail))
    refine wpQuiet_nil ?_
    rintro w5 ⟨s, rfl⟩
    go_wp2_with fail
    go_ret
    exact ⟨ret_int (by unfold atv; rw [if_pos (Or.inl k0)]), bnext hB s.2⟩
  · have z0 : decide (k < 0) = false := decide_eq_false k0
    by_cases k1 : q - p ≤ k
    · have z1 : decide (k ≥ q - p) = true := decide_eq_true k1
      have z2 : decide (q - p ≤ k) = true := decide_eq_true k1
      refine region_below (by kernel_rfl) (by kernel_rfl) ?_
      repeat (go_big_quiet_step (fail))
      refine wpQuiet_nil ?_
      rintro w5 ⟨s, rfl⟩
      go_wp2_with fail
      go_ret
      exact ⟨ret_int (by unfold atv; rw [if_pos (Or.inr k1)]), bnext hB s.2⟩
    · have z1 : decide (k ≥ q - p) = false := decide_eq_false k1
      have z2 : decide (q - p ≤ k) = false := decide_eq_false k1
      refine region_below (by kernel_rfl) (by kernel_rfl) ?_
      repeat (go_big_quiet_step (fail))
      refine wpQuiet_nil ?_
      rintro w5 ⟨s, rfl⟩
      have q2 := q0 s
      go_wp2_with fail
      go_ret
      exact ⟨ret_int (by unfold atv; rw [if_neg (by omega)]), bnext hB s.2⟩

theorem at_13 (n t k : Int) (c : Nat → Int) (w : World) (p0 : 0 ≤ c 13) (p1 : c 13 ≤ 1000000) (q0 : 0 ≤ c 14) (q1 : c 14 ≤ 1000000) :
    Calls Try.prog 33 #[.agg (gb n t c), .int .i64 13, .int .i64 k] w fun e w' => e = .returned (.int .i64 (atv (c 13) (c 14) k)) ∧ Below w.heap.size w w' := by
  unfold gb
  generalize hp : c 13 = p at *
  generalize hq : c 14 = q at *
  clear hp hq
  go_enter Try.func33, Try.ntmps33
  go_wp2_with fail
  generalize hW : World.alloc w _ = W
  have hB : Below w.heap.size w W := hW ▸ (Below.refl _ w).alloc (Nat.le_refl _) _
  have A : At W w.heap.size #[.int .i64 n, .int .i64 t, .int .i64 (c 0), .int .i64 (c 1), .int .i64 (c 2), .int .i64 (c 3), .int .i64 (c 4), .int .i64 (c 5), .int .i64 (c 6), .int .i64 (c 7), .int .i64 (c 8), .int .i64 (c 9), .int .i64 (c 10), .int .i64 (c 11), .int .i64 (c 12), .int .i64 p, .int .i64 q, .int .i64 (c 15), .int .i64 (c 16), .int .i64 (c 17), .int .i64 (c 18), .int .i64 (c 19)] 25 := hW ▸ At.last w _ 25
  clear hW
  have q0 := bel_cell (A.cell 15 rfl)
  have q1 := bel_cell (A.cell 16 rfl)
  by_cases k0 : k < 0
  · have z0 : decide (k < 0) = true := decide_eq_true k0
    refine region_below (by kernel_rfl) (by kernel_rfl) ?_
    repeat (go_big_quiet_step (fail))
    refine wpQuiet_nil ?_
    rintro w5 ⟨s, rfl⟩
    go_wp2_with fail
    go_ret
    exact ⟨ret_int (by unfold atv; rw [if_pos (Or.inl k0)]), bnext hB s.2⟩
  · have z0 : decide (k < 0) = false := decide_eq_false k0
    by_cases k1 : q - p ≤ k
    · have z1 : decide (k ≥ q - p) = true := decide_eq_true k1
      have z2 : decide (q - p ≤ k) = true := decide_eq_true k1
      refine region_below (by kernel_rfl) (by kernel_rfl) ?_
      repeat (go_big_quiet_step (fail))
      refine wpQuiet_nil ?_
      rintro w5 ⟨s, rfl⟩
      go_wp2_with fail
      go_ret
      exact ⟨ret_int (by unfold atv; rw [if_pos (Or.inr k1)]), bnext hB s.2⟩
    · have z1 : decide (k ≥ q - p) = false := decide_eq_false k1
      have z2 : decide (q - p ≤ k) = false := decide_eq_false k1
      refine region_below (by kernel_rfl) (by kernel_rfl) ?_
      repeat (go_big_quiet_step (fail))
      refine wpQuiet_nil ?_
      rintro w5 ⟨s, rfl⟩
      have q2 := q0 s
      go_wp2_with fail
      go_ret
      exact ⟨ret_int (by unfold atv; rw [if_neg (by omega)]), bnext hB s.2⟩

theorem at_14 (n t k : Int) (c : Nat → Int) (w : World) (p0 : 0 ≤ c 14) (p1 : c 14 ≤ 1000000) (q0 : 0 ≤ c 15) (q1 : c 15 ≤ 1000000) :
    Calls Try.prog 33 #[.agg (gb n t c), .int .i64 14, .int .i64 k] w fun e w' => e = .returned (.int .i64 (atv (c 14) (c 15) k)) ∧ Below w.heap.size w w' := by
  unfold gb
  generalize hp : c 14 = p at *
  generalize hq : c 15 = q at *
  clear hp hq
  go_enter Try.func33, Try.ntmps33
  go_wp2_with fail
  generalize hW : World.alloc w _ = W
  have hB : Below w.heap.size w W := hW ▸ (Below.refl _ w).alloc (Nat.le_refl _) _
  have A : At W w.heap.size #[.int .i64 n, .int .i64 t, .int .i64 (c 0), .int .i64 (c 1), .int .i64 (c 2), .int .i64 (c 3), .int .i64 (c 4), .int .i64 (c 5), .int .i64 (c 6), .int .i64 (c 7), .int .i64 (c 8), .int .i64 (c 9), .int .i64 (c 10), .int .i64 (c 11), .int .i64 (c 12), .int .i64 (c 13), .int .i64 p, .int .i64 q, .int .i64 (c 16), .int .i64 (c 17), .int .i64 (c 18), .int .i64 (c 19)] 25 := hW ▸ At.last w _ 25
  clear hW
  have q0 := bel_cell (A.cell 16 rfl)
  have q1 := bel_cell (A.cell 17 rfl)
  by_cases k0 : k < 0
  · have z0 : decide (k < 0) = true := decide_eq_true k0
    refine region_below (by kernel_rfl) (by kernel_rfl) ?_
    repeat (go_big_quiet_step (fail))
    refine wpQuiet_nil ?_
    rintro w5 ⟨s, rfl⟩
    go_wp2_with fail
    go_ret
    exact ⟨ret_int (by unfold atv; rw [if_pos (Or.inl k0)]), bnext hB s.2⟩
  · have z0 : decide (k < 0) = false := decide_eq_false k0
    by_cases k1 : q - p ≤ k
    · have z1 : decide (k ≥ q - p) = true := decide_eq_true k1
      have z2 : decide (q - p ≤ k) = true := decide_eq_true k1
      refine region_below (by kernel_rfl) (by kernel_rfl) ?_
      repeat (go_big_quiet_step (fail))
      refine wpQuiet_nil ?_
      rintro w5 ⟨s, rfl⟩
      go_wp2_with fail
      go_ret
      exact ⟨ret_int (by unfold atv; rw [if_pos (Or.inr k1)]), bnext hB s.2⟩
    · have z1 : decide (k ≥ q - p) = false := decide_eq_false k1
      have z2 : decide (q - p ≤ k) = false := decide_eq_false k1
      refine region_below (by kernel_rfl) (by kernel_rfl) ?_
      repeat (go_big_quiet_step (fail))
      refine wpQuiet_nil ?_
      rintro w5 ⟨s, rfl⟩
      have q2 := q0 s
      go_wp2_with fail
      go_ret
      exact ⟨ret_int (by unfold atv; rw [if_neg (by omega)]), bnext hB s.2⟩

theorem at_15 (n t k : Int) (c : Nat → Int) (w : World) (p0 : 0 ≤ c 15) (p1 : c 15 ≤ 1000000) (q0 : 0 ≤ c 16) (q1 : c 16 ≤ 1000000) :
    Calls Try.prog 33 #[.agg (gb n t c), .int .i64 15, .int .i64 k] w fun e w' => e = .returned (.int .i64 (atv (c 15) (c 16) k)) ∧ Below w.heap.size w w' := by
  unfold gb
  generalize hp : c 15 = p at *
  generalize hq : c 16 = q at *
  clear hp hq
  go_enter Try.func33, Try.ntmps33
  go_wp2_with fail
  generalize hW : World.alloc w _ = W
  have hB : Below w.heap.size w W := hW ▸ (Below.refl _ w).alloc (Nat.le_refl _) _
  have A : At W w.heap.size #[.int .i64 n, .int .i64 t, .int .i64 (c 0), .int .i64 (c 1), .int .i64 (c 2), .int .i64 (c 3), .int .i64 (c 4), .int .i64 (c 5), .int .i64 (c 6), .int .i64 (c 7), .int .i64 (c 8), .int .i64 (c 9), .int .i64 (c 10), .int .i64 (c 11), .int .i64 (c 12), .int .i64 (c 13), .int .i64 (c 14), .int .i64 p, .int .i64 q, .int .i64 (c 17), .int .i64 (c 18), .int .i64 (c 19)] 25 := hW ▸ At.last w _ 25
  clear hW
  have q0 := bel_cell (A.cell 17 rfl)
  have q1 := bel_cell (A.cell 18 rfl)
  by_cases k0 : k < 0
  · have z0 : decide (k < 0) = true := decide_eq_true k0
    refine region_below (by kernel_rfl) (by kernel_rfl) ?_
    repeat (go_big_quiet_step (fail))
    refine wpQuiet_nil ?_
    rintro w5 ⟨s, rfl⟩
    go_wp2_with fail
    go_ret
    exact ⟨ret_int (by unfold atv; rw [if_pos (Or.inl k0)]), bnext hB s.2⟩
  · have z0 : decide (k < 0) = false := decide_eq_false k0
    by_cases k1 : q - p ≤ k
    · have z1 : decide (k ≥ q - p) = true := decide_eq_true k1
      have z2 : decide (q - p ≤ k) = true := decide_eq_true k1
      refine region_below (by kernel_rfl) (by kernel_rfl) ?_
      repeat (go_big_quiet_step (fail))
      refine wpQuiet_nil ?_
      rintro w5 ⟨s, rfl⟩
      go_wp2_with fail
      go_ret
      exact ⟨ret_int (by unfold atv; rw [if_pos (Or.inr k1)]), bnext hB s.2⟩
    · have z1 : decide (k ≥ q - p) = false := decide_eq_false k1
      have z2 : decide (q - p ≤ k) = false := decide_eq_false k1
      refine region_below (by kernel_rfl) (by kernel_rfl) ?_
      repeat (go_big_quiet_step (fail))
      refine wpQuiet_nil ?_
      rintro w5 ⟨s, rfl⟩
      have q2 := q0 s
      go_wp2_with fail
      go_ret
      exact ⟨ret_int (by unfold atv; rw [if_neg (by omega)]), bnext hB s.2⟩

theorem at_16 (n t k : Int) (c : Nat → Int) (w : World) (p0 : 0 ≤ c 16) (p1 : c 16 ≤ 1000000) (q0 : 0 ≤ c 17) (q1 : c 17 ≤ 1000000) :
    Calls Try.prog 33 #[.agg (gb n t c), .int .i64 16, .int .i64 k] w fun e w' => e = .returned (.int .i64 (atv (c 16) (c 17) k)) ∧ Below w.heap.size w w' := by
  unfold gb
  generalize hp : c 16 = p at *
  generalize hq : c 17 = q at *
  clear hp hq
  go_enter Try.func33, Try.ntmps33
  go_wp2_with fail
  generalize hW : World.alloc w _ = W
  have hB : Below w.heap.size w W := hW ▸ (Below.refl _ w).alloc (Nat.le_refl _) _
  have A : At W w.heap.size #[.int .i64 n, .int .i64 t, .int .i64 (c 0), .int .i64 (c 1), .int .i64 (c 2), .int .i64 (c 3), .int .i64 (c 4), .int .i64 (c 5), .int .i64 (c 6), .int .i64 (c 7), .int .i64 (c 8), .int .i64 (c 9), .int .i64 (c 10), .int .i64 (c 11), .int .i64 (c 12), .int .i64 (c 13), .int .i64 (c 14), .int .i64 (c 15), .int .i64 p, .int .i64 q, .int .i64 (c 18), .int .i64 (c 19)] 25 := hW ▸ At.last w _ 25
  clear hW
  have q0 := bel_cell (A.cell 18 rfl)
  have q1 := bel_cell (A.cell 19 rfl)
  by_cases k0 : k < 0
  · have z0 : decide (k < 0) = true := decide_eq_true k0
    refine region_below (by kernel_rfl) (by kernel_rfl) ?_
    repeat (go_big_quiet_step (fail))
    refine wpQuiet_nil ?_
    rintro w5 ⟨s, rfl⟩
    go_wp2_with fail
    go_ret
    exact ⟨ret_int (by unfold atv; rw [if_pos (Or.inl k0)]), bnext hB s.2⟩
  · have z0 : decide (k < 0) = false := decide_eq_false k0
    by_cases k1 : q - p ≤ k
    · have z1 : decide (k ≥ q - p) = true := decide_eq_true k1
      have z2 : decide (q - p ≤ k) = true := decide_eq_true k1
      refine region_below (by kernel_rfl) (by kernel_rfl) ?_
      repeat (go_big_quiet_step (fail))
      refine wpQuiet_nil ?_
      rintro w5 ⟨s, rfl⟩
      go_wp2_with fail
      go_ret
      exact ⟨ret_int (by unfold atv; rw [if_pos (Or.inr k1)]), bnext hB s.2⟩
    · have z1 : decide (k ≥ q - p) = false := decide_eq_false k1
      have z2 : decide (q - p ≤ k) = false := decide_eq_false k1
      refine region_below (by kernel_rfl) (by kernel_rfl) ?_
      repeat (go_big_quiet_step (fail))
      refine wpQuiet_nil ?_
      rintro w5 ⟨s, rfl⟩
      have q2 := q0 s
      go_wp2_with fail
      go_ret
      exact ⟨ret_int (by unfold atv; rw [if_neg (by omega)]), bnext hB s.2⟩

theorem at_17 (n t k : Int) (c : Nat → Int) (w : World) (p0 : 0 ≤ c 17) (p1 : c 17 ≤ 1000000) (q0 : 0 ≤ c 18) (q1 : c 18 ≤ 1000000) :
    Calls Try.prog 33 #[.agg (gb n t c), .int .i64 17, .int .i64 k] w fun e w' => e = .returned (.int .i64 (atv (c 17) (c 18) k)) ∧ Below w.heap.size w w' := by
  unfold gb
  generalize hp : c 17 = p at *
  generalize hq : c 18 = q at *
  clear hp hq
  go_enter Try.func33, Try.ntmps33
  go_wp2_with fail
  generalize hW : World.alloc w _ = W
  have hB : Below w.heap.size w W := hW ▸ (Below.refl _ w).alloc (Nat.le_refl _) _
  have A : At W w.heap.size #[.int .i64 n, .int .i64 t, .int .i64 (c 0), .int .i64 (c 1), .int .i64 (c 2), .int .i64 (c 3), .int .i64 (c 4), .int .i64 (c 5), .int .i64 (c 6), .int .i64 (c 7), .int .i64 (c 8), .int .i64 (c 9), .int .i64 (c 10), .int .i64 (c 11), .int .i64 (c 12), .int .i64 (c 13), .int .i64 (c 14), .int .i64 (c 15), .int .i64 (c 16), .int .i64 p, .int .i64 q, .int .i64 (c 19)] 25 := hW ▸ At.last w _ 25
  clear hW
  have q0 := bel_cell (A.cell 19 rfl)
  have q1 := bel_cell (A.cell 20 rfl)
  by_cases k0 : k < 0
  · have z0 : decide (k < 0) = true := decide_eq_true k0
    refine region_below (by kernel_rfl) (by kernel_rfl) ?_
    repeat (go_big_quiet_step (fail))
    refine wpQuiet_nil ?_
    rintro w5 ⟨s, rfl⟩
    go_wp2_with fail
    go_ret
    exact ⟨ret_int (by unfold atv; rw [if_pos (Or.inl k0)]), bnext hB s.2⟩
  · have z0 : decide (k < 0) = false := decide_eq_false k0
    by_cases k1 : q - p ≤ k
    · have z1 : decide (k ≥ q - p) = true := decide_eq_true k1
      have z2 : decide (q - p ≤ k) = true := decide_eq_true k1
      refine region_below (by kernel_rfl) (by kernel_rfl) ?_
      repeat (go_big_quiet_step (fail))
      refine wpQuiet_nil ?_
      rintro w5 ⟨s, rfl⟩
      go_wp2_with fail
      go_ret
      exact ⟨ret_int (by unfold atv; rw [if_pos (Or.inr k1)]), bnext hB s.2⟩
    · have z1 : decide (k ≥ q - p) = false := decide_eq_false k1
      have z2 : decide (q - p ≤ k) = false := decide_eq_false k1
      refine region_below (by kernel_rfl) (by kernel_rfl) ?_
      repeat (go_big_quiet_step (fail))
      refine wpQuiet_nil ?_
      rintro w5 ⟨s, rfl⟩
      have q2 := q0 s
      go_wp2_with fail
      go_ret
      exact ⟨ret_int (by unfold atv; rw [if_neg (by omega)]), bnext hB s.2⟩

theorem at_18 (n t k : Int) (c : Nat → Int) (w : World) (p0 : 0 ≤ c 18) (p1 : c 18 ≤ 1000000) (q0 : 0 ≤ c 19) (q1 : c 19 ≤ 1000000) :
    Calls Try.prog 33 #[.agg (gb n t c), .int .i64 18, .int .i64 k] w fun e w' => e = .returned (.int .i64 (atv (c 18) (c 19) k)) ∧ Below w.heap.size w w' := by
  unfold gb
  generalize hp : c 18 = p at *
  generalize hq : c 19 = q at *
  clear hp hq
  go_enter Try.func33, Try.ntmps33
  go_wp2_with fail
  generalize hW : World.alloc w _ = W
  have hB : Below w.heap.size w W := hW ▸ (Below.refl _ w).alloc (Nat.le_refl _) _
  have A : At W w.heap.size #[.int .i64 n, .int .i64 t, .int .i64 (c 0), .int .i64 (c 1), .int .i64 (c 2), .int .i64 (c 3), .int .i64 (c 4), .int .i64 (c 5), .int .i64 (c 6), .int .i64 (c 7), .int .i64 (c 8), .int .i64 (c 9), .int .i64 (c 10), .int .i64 (c 11), .int .i64 (c 12), .int .i64 (c 13), .int .i64 (c 14), .int .i64 (c 15), .int .i64 (c 16), .int .i64 (c 17), .int .i64 p, .int .i64 q] 25 := hW ▸ At.last w _ 25
  clear hW
  have q0 := bel_cell (A.cell 20 rfl)
  have q1 := bel_cell (A.cell 21 rfl)
  by_cases k0 : k < 0
  · have z0 : decide (k < 0) = true := decide_eq_true k0
    refine region_below (by kernel_rfl) (by kernel_rfl) ?_
    repeat (go_big_quiet_step (fail))
    refine wpQuiet_nil ?_
    rintro w5 ⟨s, rfl⟩
    go_wp2_with fail
    go_ret
    exact ⟨ret_int (by unfold atv; rw [if_pos (Or.inl k0)]), bnext hB s.2⟩
  · have z0 : decide (k < 0) = false := decide_eq_false k0
    by_cases k1 : q - p ≤ k
    · have z1 : decide (k ≥ q - p) = true := decide_eq_true k1
      have z2 : decide (q - p ≤ k) = true := decide_eq_true k1
      refine region_below (by kernel_rfl) (by kernel_rfl) ?_
      repeat (go_big_quiet_step (fail))
      refine wpQuiet_nil ?_
      rintro w5 ⟨s, rfl⟩
      go_wp2_with fail
      go_ret
      exact ⟨ret_int (by unfold atv; rw [if_pos (Or.inr k1)]), bnext hB s.2⟩
    · have z1 : decide (k ≥ q - p) = false := decide_eq_false k1
      have z2 : decide (q - p ≤ k) = false := decide_eq_false k1
      refine region_below (by kernel_rfl) (by kernel_rfl) ?_
      repeat (go_big_quiet_step (fail))
      refine wpQuiet_nil ?_
      rintro w5 ⟨s, rfl⟩
      have q2 := q0 s
      go_wp2_with fail
      go_ret
      exact ⟨ret_int (by unfold atv; rw [if_neg (by omega)]), bnext hB s.2⟩
end Go.Proofs.Ytjdmchfneaebpaa
