/- The law WordKnown answers true. No condition. -/
import Derived.Test.YtlipnaninocfhaaWe
namespace Go.Proofs.Ytlipnaninocfhaa
open Go.RowKit
set_option linter.unusedVariables false

set_option maxRecDepth 100000 in
set_option maxHeartbeats 4000000 in
theorem WordKnown_walk (w : World) : Calls Try.prog 7 #[] w fun e w' => e = .returned (.bool true) ∧ Below w.heap.size w w' := by
  have e1 : bitV 0 false 3 7 = 30064771072 := by decide
  have e2 : bitA 30064771072 = #[.int .u8 0, .bool false, .int .i64 0, .int .u32 7] := by kernel_rfl
  have k0 : pagV 4 3 0 0 = 28 := by decide +kernel
  have k1 : staV 2 8 3 2 = 8590721058 := by decide +kernel
  have k2 : fulB 22 3 = false := by decide +kernel
  have k3 : fulB 22 0 = true := by decide +kernel
  have k4 : fulB 22 9 = false := by decide +kernel
  have k5 : fulB 255 8 = true := by decide +kernel
  have k6 : fulB 7 3 = true := by decide +kernel
  have k7 : fulB 7 4 = false := by decide +kernel
  have k8 : firI 0 = -1 := by decide +kernel
  have k9 : refV 16777216 false 0 = 0 := by decide +kernel
  have k10 : refV (-1) false 0 = 16777215 := by decide +kernel
  go_enter Try.func7, Try.ntmps7
  go_wp2_with fail
  generalize hW : World.alloc _ _ = W
  have hB : Below w.heap.size w W := by
    rw [← hW]
    exact ((((Below.refl _ w).alloc (Nat.le_refl _) _).alloc (by simp) _).alloc (by simp; omega) _).alloc (by simp; omega) _
  have A0 : At W (w.heap.size) #[.int .i64 4, .int .i64 3, .int .i64 0, .int .i64 0] 28 := by
    rw [← hW]
    exact ((((show At ((w).alloc (.cells #[.int .i64 4, .int .i64 3, .int .i64 0, .int .i64 0] 28)) (w.heap.size) #[.int .i64 4, .int .i64 3, .int .i64 0, .int .i64 0] 28 from by have := At.last (w) #[.int .i64 4, .int .i64 3, .int .i64 0, .int .i64 0] 28; simpa using this)).alloc (.cells #[.int .i64 2, .int .i64 8, .int .i64 3, .int .u32 2] 26)).alloc (.cells #[.int .u8 22, .bool true, .int .i64 1, .int .u32 0] 30)).alloc (.cells #[.int .u8 0, .bool false, .int .i64 3, .int .u32 7] 30)
  have A1 : At W (w.heap.size + 1) #[.int .i64 2, .int .i64 8, .int .i64 3, .int .u32 2] 26 := by
    rw [← hW]
    exact (((show At (((w.alloc (.cells #[.int .i64 4, .int .i64 3, .int .i64 0, .int .i64 0] 28))).alloc (.cells #[.int .i64 2, .int .i64 8, .int .i64 3, .int .u32 2] 26)) (w.heap.size + 1) #[.int .i64 2, .int .i64 8, .int .i64 3, .int .u32 2] 26 from by have := At.last ((w.alloc (.cells #[.int .i64 4, .int .i64 3, .int .i64 0, .int .i64 0] 28))) #[.int .i64 2, .int .i64 8, .int .i64 3, .int .u32 2] 26; simpa using this)).alloc (.cells #[.int .u8 22, .bool true, .int .i64 1, .int .u32 0] 30)).alloc (.cells #[.int .u8 0, .bool false, .int .i64 3, .int .u32 7] 30)
  have A2 : At W (w.heap.size + 1 + 1) #[.int .u8 22, .bool true, .int .i64 1, .int .u32 0] 30 := by
    rw [← hW]
    exact ((show At ((((w.alloc (.cells #[.int .i64 4, .int .i64 3, .int .i64 0, .int .i64 0] 28)).alloc (.cells #[.int .i64 2, .int .i64 8, .int .i64 3, .int .u32 2] 26))).alloc (.cells #[.int .u8 22, .bool true, .int .i64 1, .int .u32 0] 30)) (w.heap.size + 1 + 1) #[.int .u8 22, .bool true, .int .i64 1, .int .u32 0] 30 from by have := At.last (((w.alloc (.cells #[.int .i64 4, .int .i64 3, .int .i64 0, .int .i64 0] 28)).alloc (.cells #[.int .i64 2, .int .i64 8, .int .i64 3, .int .u32 2] 26))) #[.int .u8 22, .bool true, .int .i64 1, .int .u32 0] 30; simpa using this)).alloc (.cells #[.int .u8 0, .bool false, .int .i64 3, .int .u32 7] 30)
  have A3 : At W (w.heap.size + 1 + 1 + 1) #[.int .u8 0, .bool false, .int .i64 3, .int .u32 7] 30 := by
    rw [← hW]
    exact (show At (((((w.alloc (.cells #[.int .i64 4, .int .i64 3, .int .i64 0, .int .i64 0] 28)).alloc (.cells #[.int .i64 2, .int .i64 8, .int .i64 3, .int .u32 2] 26)).alloc (.cells #[.int .u8 22, .bool true, .int .i64 1, .int .u32 0] 30))).alloc (.cells #[.int .u8 0, .bool false, .int .i64 3, .int .u32 7] 30)) (w.heap.size + 1 + 1 + 1) #[.int .u8 0, .bool false, .int .i64 3, .int .u32 7] 30 from by have := At.last ((((w.alloc (.cells #[.int .i64 4, .int .i64 3, .int .i64 0, .int .i64 0] 28)).alloc (.cells #[.int .i64 2, .int .i64 8, .int .i64 3, .int .u32 2] 26)).alloc (.cells #[.int .u8 22, .bool true, .int .i64 1, .int .u32 0] 30))) #[.int .u8 0, .bool false, .int .i64 3, .int .u32 7] 30; simpa using this)
  clear hW
  refine (bitWord _ _ _ _ _ (by omega) (by omega) (by omega) (by omega)).mono ?_
  rintro e w1 ⟨rfl, b1⟩
  rw [e1]
  go_wp2_with fail
  refine (bitOf _ _ (by omega) (by omega)).mono ?_
  rintro e w2 ⟨rfl, b2⟩
  rw [e2]
  have b12 := bnext b1 b2
  have hB2 := bnext hB b12
  have hB2a := hB2.alloc hB2.size (.cells #[.int .u8 0, .bool false, .int .i64 0, .int .u32 7] 30)
  have A0 := (A0.below b12).alloc (.cells #[.int .u8 0, .bool false, .int .i64 0, .int .u32 7] 30)
  have A1 := (A1.below b12).alloc (.cells #[.int .u8 0, .bool false, .int .i64 0, .int .u32 7] 30)
  have A2 := (A2.below b12).alloc (.cells #[.int .u8 0, .bool false, .int .i64 0, .int .u32 7] 30)
  have A3 := (A3.below b12).alloc (.cells #[.int .u8 0, .bool false, .int .i64 0, .int .u32 7] 30)
  have A4 := At.last w2 #[.int .u8 0, .bool false, .int .i64 0, .int .u32 7] 30
  clear b1 b2 b12 hB hB2
  have q00 := A0.cell 0 rfl
  have q01 := A0.cell 1 rfl
  have q02 := A0.cell 2 rfl
  have q03 := A0.cell 3 rfl
  go_wp2_with fail
  refine (pagWord _ _ _ _ _ (by omega) (by omega) (by omega) (by omega) (by omega) (by omega) (by omega) (by omega)).mono ?_
  rintro e v0 ⟨rfl, d0⟩
  clear q00 q01 q02 q03
  have A1 := A1.below d0
  have A2 := A2.below d0
  have A4 := A4.below d0
  have hC0 := bnext hB2a d0
  clear d0
  have q10 := A1.cell 0 rfl
  have q11 := A1.cell 1 rfl
  have q12 := A1.cell 2 rfl
  have q13 := A1.cell 3 rfl
  go_wp2_with fail
  refine (staWord _ _ _ _ _ (by omega) (by omega) (by omega) (by omega) (by omega) (by omega) (by omega) (by omega)).mono ?_
  rintro e v1 ⟨rfl, d1⟩
  clear q10 q11 q12 q13
  have A2 := A2.below d1
  have A4 := A4.below d1
  have hC1 := bnext hC0 d1
  clear d1
  have q20 := A2.cell 0 rfl
  have q21 := A2.cell 1 rfl
  have q22 := A2.cell 2 rfl
  have q23 := A2.cell 3 rfl
  go_wp2_with fail
  refine (full_any _ _ _ _ _ _ (by omega) (by omega)).mono ?_
  rintro e v2 ⟨rfl, d2⟩
  clear q20 q21 q22 q23
  have A2 := A2.below d2
  have A4 := A4.below d2
  have hC2 := bnext hC1 d2
  clear d2
  have q20 := A2.cell 0 rfl
  have q21 := A2.cell 1 rfl
  have q22 := A2.cell 2 rfl
  have q23 := A2.cell 3 rfl
  go_wp2_with fail
  refine (full_any _ _ _ _ _ _ (by omega) (by omega)).mono ?_
  rintro e v3 ⟨rfl, d3⟩
  clear q20 q21 q22 q23
  have A2 := A2.below d3
  have A4 := A4.below d3
  have hC3 := bnext hC2 d3
  clear d3
  have q20 := A2.cell 0 rfl
  have q21 := A2.cell 1 rfl
  have q22 := A2.cell 2 rfl
  have q23 := A2.cell 3 rfl
  go_wp2_with fail
  refine (full_any _ _ _ _ _ _ (by omega) (by omega)).mono ?_
  rintro e v4 ⟨rfl, d4⟩
  clear q20 q21 q22 q23
  have A4 := A4.below d4
  have hC4 := bnext hC3 d4
  clear d4
  go_wp2_with fail
  refine (full_any _ _ _ _ _ _ (by omega) (by omega)).mono ?_
  rintro e v5 ⟨rfl, d5⟩
  have A4 := A4.below d5
  have hC5 := bnext hC4 d5
  clear d5
  go_wp2_with fail
  refine (full_any _ _ _ _ _ _ (by omega) (by omega)).mono ?_
  rintro e v6 ⟨rfl, d6⟩
  have A4 := A4.below d6
  have hC6 := bnext hC5 d6
  clear d6
  go_wp2_with fail
  refine (full_any _ _ _ _ _ _ (by omega) (by omega)).mono ?_
  rintro e v7 ⟨rfl, d7⟩
  have A4 := A4.below d7
  have hC7 := bnext hC6 d7
  clear d7
  go_wp2_with fail
  refine (first_any _ _ _ _ _ (by omega) (by omega)).mono ?_
  rintro e v8 ⟨rfl, d8⟩
  have A4 := A4.below d8
  have hC8 := bnext hC7 d8
  clear d8
  have q40 := A4.cell 0 rfl
  have q41 := A4.cell 1 rfl
  have q42 := A4.cell 2 rfl
  have q43 := A4.cell 3 rfl
  go_wp2_with fail
  refine (refWord _ _ _ _ (by omega) (by omega) (by omega) (by omega)).mono ?_
  rintro e v9 ⟨rfl, d9⟩
  clear q40 q41 q42 q43
  have hC9 := bnext hC8 d9
  clear d9
  go_wp2_with fail
  refine (refWord _ _ _ _ (by omega) (by omega) (by omega) (by omega)).mono ?_
  rintro e v10 ⟨rfl, d10⟩
  have hC10 := bnext hC9 d10
  clear d10
  go_wp2_with fail
  refine (awake_any _).mono ?_
  rintro e v11 ⟨rfl, d11⟩
  have hC11 := bnext hC10 d11
  clear d11
  go_wp2_with fail
  go_ret
  exact ⟨rfl, hC11⟩
end Go.Proofs.Ytlipnaninocfhaa
