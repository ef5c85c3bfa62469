/- The law ClassKnown answers true. No condition. -/
import Derived.Test.YtjbcffcjepkbgaaAw
import Derived.Deep.QuietTactic
import Derived.BigQuiet
namespace Go.Proofs.Ytjbcffcjepkbgaa
open Go.RowKit

theorem table_lit (w : World) : Calls Try.prog 8 #[] w fun e w' => e = .returned (.agg #[.int .i64 8, .int .i64 8, .int .i64 8, .int .i64 16, .int .i64 16, .int .i64 4, .int .i64 24, .int .i64 8, .int .i64 2, .int .i64 32, .int .i64 32, .int .i64 2]) ∧ Below w.heap.size w w' := table_any w

theorem cell_last (w : World) (c : Array Value) (t : TypeId) (g j : Nat) (hg : w.heap.size = g) : (w.alloc (.cells c t)).cell? ⟨g, j, none⟩ = c[j]? := by
  subst hg; exact cell_of_row _ _ _ _ _ (0, 0) (heap_alloc_new w _)
theorem heap_old (w : World) (o : Obj) (i : Nat) (x : Obj) (h : w.heap[i]? = some x) : (w.alloc o).heap[i]? = some x := by
  rw [Below.heap_alloc w o i (Array.getElem?_eq_some_iff.1 h).1]; exact h
/-- no sizes: no classes -/
theorem make_nil (a : Option Addr) (cap : Nat) (w : World) : Calls Try.prog 9 #[.slice a 0 cap] w fun e w' => e = .returned (.slice none 0 0) ∧ w' = w := by
  go_enter Try.func9, Try.ntmps9
  go_wp2_with fail
  refine wp_loop_rounds 1 ?_
  rw [rounds_succ]
  go_wp2
  go_ret
  exact ⟨rfl, rfl⟩

def kn7 : List Value := [.int .i64 64, .int .i64 64, .int .i64 1, .int .i64 40, .int .i64 8, .int .i64 1, .int .i64 8, .int .i64 8, .int .i64 8]
theorem C_kn : C [64, 7, 0, -8, 40, 72, 8] = kn7 := by kernel_rfl
theorem G_kn : G [64, 7, 0, -8, 40, 72, 8] = [64, 40, 8] := by kernel_rfl

set_option maxHeartbeats 1000000 in
theorem ClassKnown_walk (w : World) : Calls Try.prog 3 #[] w fun e w' => e = .returned (.bool true) ∧ Below w.heap.size w w' := by
  go_enter Try.func3, Try.ntmps3
  go_wp2_with fail
  refine (table_lit _).mono ?_
  rintro e w1 ⟨rfl, b1⟩
  go_wp2_with fail
  refine (make_any (w1.heap.size + 1 + 1) 0 7 7 [64, 7, 0, -8, 40, 72, 8] _ rfl (by omega) (by simp) ?_).mono ?_
  · intro i hi
    match i, hi with
    | 0, _ => exact (cell_last _ _ _ _ 0 (by simp)).trans rfl
    | 1, _ => exact (cell_last _ _ _ _ 1 (by simp)).trans rfl
    | 2, _ => exact (cell_last _ _ _ _ 2 (by simp)).trans rfl
    | 3, _ => exact (cell_last _ _ _ _ 3 (by simp)).trans rfl
    | 4, _ => exact (cell_last _ _ _ _ 4 (by simp)).trans rfl
    | 5, _ => exact (cell_last _ _ _ _ 5 (by simp)).trans rfl
    | 6, _ => exact (cell_last _ _ _ _ 6 (by simp)).trans rfl
  rintro e w2 ⟨v, rfl, hown, b2⟩
  rw [G_kn, C_kn] at hown
  obtain ⟨g, cap, rfl, hg, hg', hcap, hcm, hcell⟩ := own_open hown (by decide)
  have c0 := hcell 0 (by decide)
  have c1 := hcell 1 (by decide)
  have c2 := hcell 2 (by decide)
  have c3 := hcell 3 (by decide)
  have c4 := hcell 4 (by decide)
  have c5 := hcell 5 (by decide)
  have c6 := hcell 6 (by decide)
  have c7 := hcell 7 (by decide)
  have c8 := hcell 8 (by decide)
  simp [kn7] at c0 c1 c2 c3 c4 c5 c6 c7 c8
  have hT1 : w2.heap[w1.heap.size]? = some (.cells tabV.toArray 24 (0, 0)) := by
    rw [b2.block _ (by simp <;> omega)]
    exact heap_old _ _ _ _ (heap_alloc2_old _ _ _)
  have hT2 : w2.heap[w1.heap.size + 1]? = some (.cells tabV.toArray 24 (0, 0)) := by
    rw [b2.block _ (by simp <;> omega)]
    exact heap_old _ _ _ _ (heap_alloc2_new _ _ _)
  have hB : Below w.heap.size w w2 := bnext b1 ((((((Below.refl _ w1).alloc (Nat.le_refl _) _).alloc (by simp) _).alloc (by simp; omega) _)).trans (b2.mono (by simp; omega)))
  have hz : w1.heap.size + 1 < w2.heap.size := by have := b2.size; simp at this; omega
  clear b1 b2 hown hcell hg hcap hcm
  have e1 : bo 2 48 = false := by kernel_rfl
  have e2 : bo 1 8 = false := by kernel_rfl
  have e3 : bo 4 0 = false := by kernel_rfl
  have e4 : bo (-1) 0 = false := by kernel_rfl
  have e5 : bo 0 (-8) = false := by kernel_rfl
  go_wp2_with fail
  refine (block_any _ _ _ (by omega)).mono ?_
  rintro e w3 ⟨rfl, b3⟩
  go_wp2_with fail
  refine (block_any _ _ _ (by omega)).mono ?_
  rintro e w4 ⟨rfl, b4⟩
  go_wp2_with fail
  refine (block_any _ _ _ (by omega)).mono ?_
  rintro e w5 ⟨rfl, b5⟩
  go_wp2_with fail
  refine (block_any _ _ _ (by omega)).mono ?_
  rintro e w6 ⟨rfl, b6⟩
  go_wp2_with fail
  refine (block_any _ _ _ (by omega)).mono ?_
  rintro e w7 ⟨rfl, b7⟩
  have b37 := bnext (bnext (bnext (bnext b3 b4) b5) b6) b7
  have hB7 := bnext hB b37
  have d0 := (b37.cell (p := ⟨g, 0, none⟩) hg').trans c0
  have d1 := (b37.cell (p := ⟨g, 1, none⟩) hg').trans c1
  have d2 := (b37.cell (p := ⟨g, 2, none⟩) hg').trans c2
  have d3 := (b37.cell (p := ⟨g, 3, none⟩) hg').trans c3
  have d4 := (b37.cell (p := ⟨g, 4, none⟩) hg').trans c4
  have d5 := (b37.cell (p := ⟨g, 5, none⟩) hg').trans c5
  have d6 := (b37.cell (p := ⟨g, 6, none⟩) hg').trans c6
  have d7 := (b37.cell (p := ⟨g, 7, none⟩) hg').trans c7
  have d8 := (b37.cell (p := ⟨g, 8, none⟩) hg').trans c8
  have hU1 : w7.heap[w1.heap.size]? = some (.cells tabV.toArray 24 (0, 0)) := (b37.block _ (by omega)).trans hT1
  have hU2 : w7.heap[w1.heap.size + 1]? = some (.cells tabV.toArray 24 (0, 0)) := (b37.block _ (by omega)).trans hT2
  clear b3 b4 b5 b6 b7 b37 hB c0 c1 c2 c3 c4 c5 c6 c7 c8 hT1 hT2 hz hg'
  generalize w1.heap.size = B at *
  clear w1
  have u1_0 : w7.cell? ⟨B, 0, none⟩ = _ := (cell_of_row _ _ 0 _ _ _ hU1).trans rfl
  have u1_1 : w7.cell? ⟨B, 1, none⟩ = _ := (cell_of_row _ _ 1 _ _ _ hU1).trans rfl
  have u1_2 : w7.cell? ⟨B, 2, none⟩ = _ := (cell_of_row _ _ 2 _ _ _ hU1).trans rfl
  have u1_3 : w7.cell? ⟨B, 3, none⟩ = _ := (cell_of_row _ _ 3 _ _ _ hU1).trans rfl
  have u1_4 : w7.cell? ⟨B, 4, none⟩ = _ := (cell_of_row _ _ 4 _ _ _ hU1).trans rfl
  have u1_5 : w7.cell? ⟨B, 5, none⟩ = _ := (cell_of_row _ _ 5 _ _ _ hU1).trans rfl
  have u1_6 : w7.cell? ⟨B, 6, none⟩ = _ := (cell_of_row _ _ 6 _ _ _ hU1).trans rfl
  have u1_7 : w7.cell? ⟨B, 7, none⟩ = _ := (cell_of_row _ _ 7 _ _ _ hU1).trans rfl
  have u1_8 : w7.cell? ⟨B, 8, none⟩ = _ := (cell_of_row _ _ 8 _ _ _ hU1).trans rfl
  have u1_9 : w7.cell? ⟨B, 9, none⟩ = _ := (cell_of_row _ _ 9 _ _ _ hU1).trans rfl
  have u1_10 : w7.cell? ⟨B, 10, none⟩ = _ := (cell_of_row _ _ 10 _ _ _ hU1).trans rfl
  have u1_11 : w7.cell? ⟨B, 11, none⟩ = _ := (cell_of_row _ _ 11 _ _ _ hU1).trans rfl
  have u2_0 : w7.cell? ⟨B + 1, 0, none⟩ = _ := (cell_of_row _ _ 0 _ _ _ hU2).trans rfl
  have u2_1 : w7.cell? ⟨B + 1, 1, none⟩ = _ := (cell_of_row _ _ 1 _ _ _ hU2).trans rfl
  have u2_2 : w7.cell? ⟨B + 1, 2, none⟩ = _ := (cell_of_row _ _ 2 _ _ _ hU2).trans rfl
  have u2_3 : w7.cell? ⟨B + 1, 3, none⟩ = _ := (cell_of_row _ _ 3 _ _ _ hU2).trans rfl
  have u2_4 : w7.cell? ⟨B + 1, 4, none⟩ = _ := (cell_of_row _ _ 4 _ _ _ hU2).trans rfl
  have u2_5 : w7.cell? ⟨B + 1, 5, none⟩ = _ := (cell_of_row _ _ 5 _ _ _ hU2).trans rfl
  have u2_6 : w7.cell? ⟨B + 1, 6, none⟩ = _ := (cell_of_row _ _ 6 _ _ _ hU2).trans rfl
  have u2_7 : w7.cell? ⟨B + 1, 7, none⟩ = _ := (cell_of_row _ _ 7 _ _ _ hU2).trans rfl
  have u2_8 : w7.cell? ⟨B + 1, 8, none⟩ = _ := (cell_of_row _ _ 8 _ _ _ hU2).trans rfl
  have u2_9 : w7.cell? ⟨B + 1, 9, none⟩ = _ := (cell_of_row _ _ 9 _ _ _ hU2).trans rfl
  have u2_10 : w7.cell? ⟨B + 1, 10, none⟩ = _ := (cell_of_row _ _ 10 _ _ _ hU2).trans rfl
  have u2_11 : w7.cell? ⟨B + 1, 11, none⟩ = _ := (cell_of_row _ _ 11 _ _ _ hU2).trans rfl
  simp [tabV] at u1_0 u1_1 u1_2 u1_3 u1_4 u1_5 u1_6 u1_7 u1_8 u1_9 u1_10 u1_11 u2_0 u2_1 u2_2 u2_3 u2_4 u2_5 u2_6 u2_7 u2_8 u2_9 u2_10 u2_11
  clear hU1 hU2
  have hE : ∀ w, (eqGuard .neq 24 (.tmp 42) (.tmp 43) (.agg tabV.toArray) (.agg tabV.toArray)).run Try.prog w = .ok () w := fun _ => by kernel_rfl
  have hN : ∀ w, (binOp .neq 24 (.agg tabV.toArray) (.agg tabV.toArray)).run Try.prog w = .ok (.bool false) w := fun _ => by kernel_rfl
  simp only [tabV] at hE hN
  go_wp2_with fail
  go_quiet ((go_at_call 9; exact Calls.quiet_of_same (make_nil _ _ _)))
  clear d0 d1 d2 d3 d4 d5 d6 d7 d8 hE hN u1_0 u1_1 u1_2 u1_3 u1_4 u1_5 u1_6 u1_7 u1_8 u1_9 u1_10 u1_11 u2_0 u2_1 u2_2 u2_3 u2_4 u2_5 u2_6 u2_7 u2_8 u2_9 u2_10 u2_11
  have hB8 := below_drewN hB7 nq
  generalize w7.drewN nq = W0 at *
  have f0 : ofI 1 1 = 0 := by kernel_rfl
  have f1 : ofI 9 1 = 1 := by kernel_rfl
  have f2 : ofI 8 64 = -1 := by kernel_rfl
  have f3 : ofI 0 1 = -1 := by kernel_rfl
  have f4 : ofI 8 3 = -1 := by kernel_rfl
  have f5 : ofI 8 0 = -1 := by kernel_rfl
  have f6 : ofI 8 (-8) = -1 := by kernel_rfl
  have f7 : ofI 32 32 = 3 := by kernel_rfl
  have g0 : pgI 1 = 1 := by kernel_rfl
  have g1 : pgI 64 = 1 := by kernel_rfl
  have g2 : pgI 0 = 0 := by kernel_rfl
  have g3 : pgI (-5) = 0 := by kernel_rfl
  have g4 : pgI 9223372036854775807 = 144115188075855872 := by kernel_rfl
  go_wp2_with fail
  refine (of_any _ _ _ (by omega) (by omega)).mono ?_
  rintro e W1 ⟨rfl, B1⟩
  go_wp2_with fail
  refine (of_any _ _ _ (by omega) (by omega)).mono ?_
  rintro e W2 ⟨rfl, B2⟩
  go_wp2_with fail
  refine (of_any _ _ _ (by omega) (by omega)).mono ?_
  rintro e W3 ⟨rfl, B3⟩
  go_wp2_with fail
  refine (of_any _ _ _ (by omega) (by omega)).mono ?_
  rintro e W4 ⟨rfl, B4⟩
  go_wp2_with fail
  refine (of_any _ _ _ (by omega) (by omega)).mono ?_
  rintro e W5 ⟨rfl, B5⟩
  go_wp2_with fail
  refine (of_any _ _ _ (by omega) (by omega)).mono ?_
  rintro e W6 ⟨rfl, B6⟩
  go_wp2_with fail
  refine (of_any _ _ _ (by omega) (by omega)).mono ?_
  rintro e W7 ⟨rfl, B7⟩
  go_wp2_with fail
  refine (of_any _ _ _ (by omega) (by omega)).mono ?_
  rintro e W8 ⟨rfl, B8⟩
  go_wp2_with fail
  refine (pages_any _ _ (by omega) (by omega)).mono ?_
  rintro e Wx ⟨rfl, rfl⟩
  go_wp2_with fail
  refine (pages_any _ _ (by omega) (by omega)).mono ?_
  rintro e Wx ⟨rfl, rfl⟩
  go_wp2_with fail
  refine (pages_any _ _ (by omega) (by omega)).mono ?_
  rintro e Wx ⟨rfl, rfl⟩
  go_wp2_with fail
  refine (pages_any _ _ (by omega) (by omega)).mono ?_
  rintro e Wx ⟨rfl, rfl⟩
  go_wp2_with fail
  refine (pages_any _ _ (by omega) (by omega)).mono ?_
  rintro e Wx ⟨rfl, rfl⟩
  go_wp2_with fail
  refine (awake_any _).mono ?_
  rintro e W9 ⟨rfl, B9⟩
  go_wp2_with fail
  go_ret
  exact ⟨rfl, bnext (bnext (bnext (bnext (bnext (bnext (bnext (bnext (bnext hB8 B1) B2) B3) B4) B5) B6) B7) B8) B9⟩
end Go.Proofs.Ytjbcffcjepkbgaa
