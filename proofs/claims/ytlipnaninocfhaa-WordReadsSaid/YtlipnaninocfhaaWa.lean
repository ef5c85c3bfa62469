/- awake of layer 1 answers true. No condition. -/
import Derived.Test.YtlipnaninocfhaaWs
namespace Go.Proofs.Ytlipnaninocfhaa
open Go.RowKit

theorem cell_last (w : World) (c : Array Value) (t : TypeId) (g j : Nat) (hg : w.heap.size = g) : (w.alloc (.cells c t)).cell? ⟨g, j, none⟩ = c[j]? := by
  subst hg; exact cell_of_row _ _ _ _ _ (0, 0) (heap_alloc_new w _)
theorem cell_old {w : World} {o : Obj} {a : Addr} {v : Value} (h : w.cell? a = some v) : (w.alloc o).cell? a = some v :=
  (((Below.refl w.heap.size w).alloc (Nat.le_refl _) o).cell (World.block_lt_of_cell? w _ h)).trans h

set_option maxHeartbeats 2000000 in
theorem awake_any (w : World) : Calls Try.prog 17 #[] w fun e w' => e = .returned (.bool true) ∧ Below w.heap.size w w' := by
  have e1 : refV 5 true 1 = 4311744517 := by decide
  have e2 : staV 1 24 0 0 = 97 := by decide
  have e3 : pagV 3 1 2 5 = 344075 := by decide
  have e4 : bitV 22 true 1 0 = 534 := by decide
  have e5 : firI 22 = 1 := by decide +kernel
  have e6 : refA 4311744517 = #[.int .i64 5, .bool true, .int .u32 1] := by kernel_rfl
  have e7 : pagA 344075 = #[.int .i64 3, .int .i64 1, .int .i64 2, .int .i64 5] := by kernel_rfl
  go_enter Try.func17, Try.ntmps17
  go_wp2_with fail
  generalize hW : World.alloc _ _ = W
  have hB : Below w.heap.size w W := by
    rw [← hW]
    exact ((((Below.refl _ w).alloc (Nat.le_refl _) _).alloc (by simp) _).alloc (by simp; omega) _).alloc (by simp; omega) _
  have c00 := bel_cell (w := W) (a := ⟨w.heap.size, 0, none⟩) (v := .int .i64 5) (by rw [← hW]; exact cell_old (cell_old (cell_old ((cell_last _ _ _ _ 0 (by first | rfl | simp)).trans rfl))))
  have c01 := bel_cell (w := W) (a := ⟨w.heap.size, 1, none⟩) (v := .bool true) (by rw [← hW]; exact cell_old (cell_old (cell_old ((cell_last _ _ _ _ 1 (by first | rfl | simp)).trans rfl))))
  have c02 := bel_cell (w := W) (a := ⟨w.heap.size, 2, none⟩) (v := .int .u32 1) (by rw [← hW]; exact cell_old (cell_old (cell_old ((cell_last _ _ _ _ 2 (by first | rfl | simp)).trans rfl))))
  have c10 := bel_cell (w := W) (a := ⟨w.heap.size + 1, 0, none⟩) (v := .int .i64 1) (by rw [← hW]; exact cell_old (cell_old ((cell_last _ _ _ _ 0 (by first | rfl | simp)).trans rfl)))
  have c11 := bel_cell (w := W) (a := ⟨w.heap.size + 1, 1, none⟩) (v := .int .i64 24) (by rw [← hW]; exact cell_old (cell_old ((cell_last _ _ _ _ 1 (by first | rfl | simp)).trans rfl)))
  have c12 := bel_cell (w := W) (a := ⟨w.heap.size + 1, 2, none⟩) (v := .int .i64 0) (by rw [← hW]; exact cell_old (cell_old ((cell_last _ _ _ _ 2 (by first | rfl | simp)).trans rfl)))
  have c13 := bel_cell (w := W) (a := ⟨w.heap.size + 1, 3, none⟩) (v := .int .u32 0) (by rw [← hW]; exact cell_old (cell_old ((cell_last _ _ _ _ 3 (by first | rfl | simp)).trans rfl)))
  have c20 := bel_cell (w := W) (a := ⟨w.heap.size + 1 + 1, 0, none⟩) (v := .int .i64 3) (by rw [← hW]; exact cell_old ((cell_last _ _ _ _ 0 (by first | rfl | simp)).trans rfl))
  have c21 := bel_cell (w := W) (a := ⟨w.heap.size + 1 + 1, 1, none⟩) (v := .int .i64 1) (by rw [← hW]; exact cell_old ((cell_last _ _ _ _ 1 (by first | rfl | simp)).trans rfl))
  have c22 := bel_cell (w := W) (a := ⟨w.heap.size + 1 + 1, 2, none⟩) (v := .int .i64 2) (by rw [← hW]; exact cell_old ((cell_last _ _ _ _ 2 (by first | rfl | simp)).trans rfl))
  have c23 := bel_cell (w := W) (a := ⟨w.heap.size + 1 + 1, 3, none⟩) (v := .int .i64 5) (by rw [← hW]; exact cell_old ((cell_last _ _ _ _ 3 (by first | rfl | simp)).trans rfl))
  have c30 := bel_cell (w := W) (a := ⟨w.heap.size + 1 + 1 + 1, 0, none⟩) (v := .int .u8 22) (by rw [← hW]; exact (cell_last _ _ _ _ 0 (by first | rfl | simp)).trans rfl)
  have c31 := bel_cell (w := W) (a := ⟨w.heap.size + 1 + 1 + 1, 1, none⟩) (v := .bool true) (by rw [← hW]; exact (cell_last _ _ _ _ 1 (by first | rfl | simp)).trans rfl)
  have c32 := bel_cell (w := W) (a := ⟨w.heap.size + 1 + 1 + 1, 2, none⟩) (v := .int .i64 1) (by rw [← hW]; exact (cell_last _ _ _ _ 2 (by first | rfl | simp)).trans rfl)
  have c33 := bel_cell (w := W) (a := ⟨w.heap.size + 1 + 1 + 1, 3, none⟩) (v := .int .u32 0) (by rw [← hW]; exact (cell_last _ _ _ _ 3 (by first | rfl | simp)).trans rfl)
  clear hW
  refine region_below (by kernel_rfl) (by kernel_rfl) ?_
  repeat (go_big_quiet_step (first
    | (go_at_call 9; exact below_of (refWord _ _ _ _ (by omega) (by omega) (by omega) (by omega)))
    | (go_at_call 20; exact below_of (refOf _ _ (by omega) (by omega)))
    | (go_at_call 11; exact below_of (staWord _ _ _ _ _ (by omega) (by omega) (by omega) (by omega) (by omega) (by omega) (by omega) (by omega)))
    | (go_at_call 13; exact below_of (pagWord _ _ _ _ _ (by omega) (by omega) (by omega) (by omega) (by omega) (by omega) (by omega) (by omega)))
    | (go_at_call 22; exact below_of (pagOf _ _ (by omega) (by omega)))
    | (go_at_call 15; exact below_of (bitWord _ _ _ _ _ (by omega) (by omega) (by omega) (by omega)))
    | (go_at_call 18; exact below_of (first_any _ _ _ _ _ (by omega) (by omega)))))
  refine wpQuiet_nil ?_
  intro w5 hw5
  obtain ⟨s, rfl⟩ := hw5
  have b5 := s.2
  generalize s.1 = W5 at *
  go_wp2_with fail
  go_ret
  exact ⟨rfl, bnext hB b5⟩
end Go.Proofs.Ytlipnaninocfhaa
