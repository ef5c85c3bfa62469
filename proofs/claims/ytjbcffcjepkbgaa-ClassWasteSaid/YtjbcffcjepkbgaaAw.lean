/- Awake answers true. No condition. -/
import Derived.Test.YtjbcffcjepkbgaaOf
import Derived.Test.YtjbcffcjepkbgaaBl
namespace Go.Proofs.Ytjbcffcjepkbgaa
open Go.RowKit

theorem bnext {a b c : World} (h : Below a.heap.size a b) (k : Below b.heap.size b c) : Below a.heap.size a c := h.trans (k.mono h.size)
theorem bstep {a b c : World} (h : Below a.heap.size a b) (k : b = c) : Below a.heap.size a c := k ▸ h

set_option maxHeartbeats 400000 in
theorem awake_any (w : World) : Calls Try.prog 13 #[] w fun e w' => e = .returned (.bool true) ∧ Below w.heap.size w w' := by
  have e1 : ofI 17 8 = 2 := by kernel_rfl
  have e2 : ofI 17 16 = 3 := by kernel_rfl
  have e3 : ofI 33 1 = -1 := by kernel_rfl
  have e4 : pgI 65 = 2 := by kernel_rfl
  have e5 : bk 2 24 = 1 := by kernel_rfl
  have e6 : bo 2 24 = true := by kernel_rfl
  go_enter Try.func13, Try.ntmps13
  go_wp2_with fail
  refine (block_any _ _ _ (by omega)).mono ?_
  rintro e w1 ⟨rfl, b1⟩
  go_wp2_with fail
  refine (of_any _ _ _ (by omega) (by omega)).mono ?_
  rintro e w2 ⟨rfl, b2⟩
  go_wp2_with fail
  refine (of_any _ _ _ (by omega) (by omega)).mono ?_
  rintro e w3 ⟨rfl, b3⟩
  go_wp2_with fail
  refine (of_any _ _ _ (by omega) (by omega)).mono ?_
  rintro e w4 ⟨rfl, b4⟩
  go_wp2_with fail
  refine (pages_any _ _ (by omega) (by omega)).mono ?_
  rintro e w5 ⟨rfl, rfl⟩
  go_wp2_with fail
  go_ret
  exact ⟨rfl, bnext (bnext (bnext b1 b2) b3) b4⟩
end Go.Proofs.Ytjbcffcjepkbgaa
