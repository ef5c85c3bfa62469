/- The law WordPacks answers true. Condition: the fields fit their kinds. -/
import Derived.Test.YtlipnaninocfhaaWa
namespace Go.Proofs.Ytlipnaninocfhaa
open Go.RowKit
set_option linter.unusedVariables false

set_option maxRecDepth 100000 in
set_option maxHeartbeats 4000000 in
theorem packs_walk (ri : Int) (rm : Bool) (rv sk ss so sv pk pl pc po bm : Int) (bh : Bool) (bc bv : Int) (w : World) (ri1 : -9223372036854775808 ≤ ri) (ri2 : ri ≤ 9223372036854775807) (rv1 : 0 ≤ rv) (rv2 : rv ≤ 4294967295) (sk1 : -9223372036854775808 ≤ sk) (sk2 : sk ≤ 9223372036854775807) (ss1 : -9223372036854775808 ≤ ss) (ss2 : ss ≤ 9223372036854775807) (so1 : -9223372036854775808 ≤ so) (so2 : so ≤ 9223372036854775807) (sv1 : 0 ≤ sv) (sv2 : sv ≤ 4294967295) (pk1 : -9223372036854775808 ≤ pk) (pk2 : pk ≤ 9223372036854775807) (pl1 : -9223372036854775808 ≤ pl) (pl2 : pl ≤ 9223372036854775807) (pc1 : -9223372036854775808 ≤ pc) (pc2 : pc ≤ 9223372036854775807) (po1 : -9223372036854775808 ≤ po) (po2 : po ≤ 9223372036854775807) (bm1 : 0 ≤ bm) (bm2 : bm ≤ 255) (bc1 : -9223372036854775808 ≤ bc) (bc2 : bc ≤ 9223372036854775807) (bv1 : 0 ≤ bv) (bv2 : bv ≤ 4294967295) :
    Calls Try.prog 3 #[.agg #[.int .i64 ri, .bool rm, .int .u32 rv], .agg #[.int .i64 sk, .int .i64 ss, .int .i64 so, .int .u32 sv], .agg #[.int .i64 pk, .int .i64 pl, .int .i64 pc, .int .i64 po], .agg #[.int .u8 bm, .bool bh, .int .i64 bc, .int .u32 bv]] w fun e w' => e = .returned (.bool true) ∧ Below w.heap.size w w' := by
  go_enter Try.func3, Try.ntmps3
  go_wp2_with fail
  generalize hW : World.alloc _ _ = W
  have hB : Below w.heap.size w W := by
    rw [← hW]
    exact ((((Below.refl _ w).alloc (Nat.le_refl _) _).alloc (by simp) _).alloc (by simp; omega) _).alloc (by simp; omega) _
  have c00 := bel_cell (w := W) (a := ⟨w.heap.size, 0, none⟩) (v := .int .i64 ri) (by rw [← hW]; exact cell_old (cell_old (cell_old ((cell_last _ _ _ _ 0 (by first | rfl | simp)).trans rfl))))
  have c01 := bel_cell (w := W) (a := ⟨w.heap.size, 1, none⟩) (v := .bool rm) (by rw [← hW]; exact cell_old (cell_old (cell_old ((cell_last _ _ _ _ 1 (by first | rfl | simp)).trans rfl))))
  have c02 := bel_cell (w := W) (a := ⟨w.heap.size, 2, none⟩) (v := .int .u32 rv) (by rw [← hW]; exact cell_old (cell_old (cell_old ((cell_last _ _ _ _ 2 (by first | rfl | simp)).trans rfl))))
  have c10 := bel_cell (w := W) (a := ⟨w.heap.size + 1, 0, none⟩) (v := .int .i64 sk) (by rw [← hW]; exact cell_old (cell_old ((cell_last _ _ _ _ 0 (by first | rfl | simp)).trans rfl)))
  have c11 := bel_cell (w := W) (a := ⟨w.heap.size + 1, 1, none⟩) (v := .int .i64 ss) (by rw [← hW]; exact cell_old (cell_old ((cell_last _ _ _ _ 1 (by first | rfl | simp)).trans rfl)))
  have c12 := bel_cell (w := W) (a := ⟨w.heap.size + 1, 2, none⟩) (v := .int .i64 so) (by rw [← hW]; exact cell_old (cell_old ((cell_last _ _ _ _ 2 (by first | rfl | simp)).trans rfl)))
  have c13 := bel_cell (w := W) (a := ⟨w.heap.size + 1, 3, none⟩) (v := .int .u32 sv) (by rw [← hW]; exact cell_old (cell_old ((cell_last _ _ _ _ 3 (by first | rfl | simp)).trans rfl)))
  have c20 := bel_cell (w := W) (a := ⟨w.heap.size + 1 + 1, 0, none⟩) (v := .int .i64 pk) (by rw [← hW]; exact cell_old ((cell_last _ _ _ _ 0 (by first | rfl | simp)).trans rfl))
  have c21 := bel_cell (w := W) (a := ⟨w.heap.size + 1 + 1, 1, none⟩) (v := .int .i64 pl) (by rw [← hW]; exact cell_old ((cell_last _ _ _ _ 1 (by first | rfl | simp)).trans rfl))
  have c22 := bel_cell (w := W) (a := ⟨w.heap.size + 1 + 1, 2, none⟩) (v := .int .i64 pc) (by rw [← hW]; exact cell_old ((cell_last _ _ _ _ 2 (by first | rfl | simp)).trans rfl))
  have c23 := bel_cell (w := W) (a := ⟨w.heap.size + 1 + 1, 3, none⟩) (v := .int .i64 po) (by rw [← hW]; exact cell_old ((cell_last _ _ _ _ 3 (by first | rfl | simp)).trans rfl))
  have c30 := bel_cell (w := W) (a := ⟨w.heap.size + 1 + 1 + 1, 0, none⟩) (v := .int .u8 bm) (by rw [← hW]; exact (cell_last _ _ _ _ 0 (by first | rfl | simp)).trans rfl)
  have c31 := bel_cell (w := W) (a := ⟨w.heap.size + 1 + 1 + 1, 1, none⟩) (v := .bool bh) (by rw [← hW]; exact (cell_last _ _ _ _ 1 (by first | rfl | simp)).trans rfl)
  have c32 := bel_cell (w := W) (a := ⟨w.heap.size + 1 + 1 + 1, 2, none⟩) (v := .int .i64 bc) (by rw [← hW]; exact (cell_last _ _ _ _ 2 (by first | rfl | simp)).trans rfl)
  have c33 := bel_cell (w := W) (a := ⟨w.heap.size + 1 + 1 + 1, 3, none⟩) (v := .int .u32 bv) (by rw [← hW]; exact (cell_last _ _ _ _ 3 (by first | rfl | simp)).trans rfl)
  clear hW
  refine region_below (by kernel_rfl) (by kernel_rfl) ?_
  repeat (go_big_quiet_step (first
    | (go_at_call 9; exact below_of (refWord _ _ _ _ ri1 ri2 rv1 rv2))
    | (go_at_call 10; exact below_same (rRef _ _ _ _ rv1 rv2))
    | (go_at_call 11; exact below_of (staWord _ _ _ _ _ sk1 sk2 ss1 ss2 so1 so2 sv1 sv2))
    | (go_at_call 12; exact below_same (rSta _ _ _ _ _ sv1 sv2))
    | (go_at_call 13; exact below_of (pagWord _ _ _ _ _ pk1 pk2 pl1 pl2 pc1 pc2 po1 po2))
    | (go_at_call 14; exact below_same (rPag _ _ _ _ _))
    | (go_at_call 15; exact below_of (bitWord _ _ _ _ _ bm1 bm2 bv1 bv2))
    | (go_at_call 16; exact below_same (rBit _ _ _ _ _ bm1 bm2 bv1 bv2))
    | (go_at_call 17; exact below_of (awake_any _))))
  refine wpQuiet_nil ?_
  intro w5 hw5
  obtain ⟨s, rfl⟩ := hw5
  have b5 := s.2
  generalize s.1 = W5 at *
  go_wp2_with fail
  go_ret
  exact ⟨rfl, bnext hB b5⟩
end Go.Proofs.Ytlipnaninocfhaa
