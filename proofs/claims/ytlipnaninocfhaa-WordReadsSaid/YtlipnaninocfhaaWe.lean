/- Unlike fields have unlike words: plain facts, and what == tells of two structs. Condition: the fields fit. -/
import Derived.Test.YtlipnaninocfhaaWa
namespace Go.Proofs.Ytlipnaninocfhaa
open Go.RowKit
set_option linter.unusedVariables false
theorem eq24 (x0 y0 : Int) (x1 y1 : Bool) (x2 y2 : Int) (w : World) : (binOp .eql 24 (.agg #[.int .i64 x0, .bool x1, .int .u32 x2]) (.agg #[.int .i64 y0, .bool y1, .int .u32 y2])).run Try.prog w = .ok (.bool ((x0 == y0) && ((x1 == y1) && (x2 == y2)))) w := by
  cases h0 : (x0 == y0) <;> cases h1 : (x1 == y1) <;> cases h2 : (x2 == y2) <;> go_simp
theorem gd24 (x0 y0 : Int) (x1 y1 : Bool) (x2 y2 : Int) (x y : Operand) (w : World) : (eqGuard .eql 24 x y (.agg #[.int .i64 x0, .bool x1, .int .u32 x2]) (.agg #[.int .i64 y0, .bool y1, .int .u32 y2])).run Try.prog w = .ok () w := by
  kernel_rfl
theorem eq26 (x0 y0 : Int) (x1 y1 : Int) (x2 y2 : Int) (x3 y3 : Int) (w : World) : (binOp .eql 26 (.agg #[.int .i64 x0, .int .i64 x1, .int .i64 x2, .int .u32 x3]) (.agg #[.int .i64 y0, .int .i64 y1, .int .i64 y2, .int .u32 y3])).run Try.prog w = .ok (.bool ((x0 == y0) && ((x1 == y1) && ((x2 == y2) && (x3 == y3))))) w := by
  cases h0 : (x0 == y0) <;> cases h1 : (x1 == y1) <;> cases h2 : (x2 == y2) <;> cases h3 : (x3 == y3) <;> go_simp
theorem gd26 (x0 y0 : Int) (x1 y1 : Int) (x2 y2 : Int) (x3 y3 : Int) (x y : Operand) (w : World) : (eqGuard .eql 26 x y (.agg #[.int .i64 x0, .int .i64 x1, .int .i64 x2, .int .u32 x3]) (.agg #[.int .i64 y0, .int .i64 y1, .int .i64 y2, .int .u32 y3])).run Try.prog w = .ok () w := by
  kernel_rfl
theorem eq28 (x0 y0 : Int) (x1 y1 : Int) (x2 y2 : Int) (x3 y3 : Int) (w : World) : (binOp .eql 28 (.agg #[.int .i64 x0, .int .i64 x1, .int .i64 x2, .int .i64 x3]) (.agg #[.int .i64 y0, .int .i64 y1, .int .i64 y2, .int .i64 y3])).run Try.prog w = .ok (.bool ((x0 == y0) && ((x1 == y1) && ((x2 == y2) && (x3 == y3))))) w := by
  cases h0 : (x0 == y0) <;> cases h1 : (x1 == y1) <;> cases h2 : (x2 == y2) <;> cases h3 : (x3 == y3) <;> go_simp
theorem gd28 (x0 y0 : Int) (x1 y1 : Int) (x2 y2 : Int) (x3 y3 : Int) (x y : Operand) (w : World) : (eqGuard .eql 28 x y (.agg #[.int .i64 x0, .int .i64 x1, .int .i64 x2, .int .i64 x3]) (.agg #[.int .i64 y0, .int .i64 y1, .int .i64 y2, .int .i64 y3])).run Try.prog w = .ok () w := by
  kernel_rfl
theorem eq30 (x0 y0 : Int) (x1 y1 : Bool) (x2 y2 : Int) (x3 y3 : Int) (w : World) : (binOp .eql 30 (.agg #[.int .u8 x0, .bool x1, .int .i64 x2, .int .u32 x3]) (.agg #[.int .u8 y0, .bool y1, .int .i64 y2, .int .u32 y3])).run Try.prog w = .ok (.bool ((x0 == y0) && ((x1 == y1) && ((x2 == y2) && (x3 == y3))))) w := by
  cases h0 : (x0 == y0) <;> cases h1 : (x1 == y1) <;> cases h2 : (x2 == y2) <;> cases h3 : (x3 == y3) <;> go_simp
theorem gd30 (x0 y0 : Int) (x1 y1 : Bool) (x2 y2 : Int) (x3 y3 : Int) (x y : Operand) (w : World) : (eqGuard .eql 30 x y (.agg #[.int .u8 x0, .bool x1, .int .i64 x2, .int .u32 x3]) (.agg #[.int .u8 y0, .bool y1, .int .i64 y2, .int .u32 y3])).run Try.prog w = .ok () w := by
  kernel_rfl

theorem refA_form (x : Int) (h0 : 0 ≤ x) (h1 : x ≤ 18446744073709551615) : ∃ i m u, refA x = #[.int .i64 i, .bool m, .int .u32 u] ∧ 0 ≤ i ∧ i < 16777216 ∧ 0 ≤ u ∧ u ≤ 4294967295 :=
  ⟨_, _, _, rfl, by omega, by omega, by omega, by omega⟩
theorem staA_form (x : Int) (h0 : 0 ≤ x) (h1 : x ≤ 18446744073709551615) : ∃ k s o u, staA x = #[.int .i64 k, .int .i64 s, .int .i64 o, .int .u32 u] ∧ 0 ≤ k ∧ k < 4 ∧ 0 ≤ s ∧ s < 65536 ∧ 0 ≤ o ∧ o < 4096 ∧ 0 ≤ u ∧ u ≤ 4294967295 :=
  ⟨_, _, _, _, rfl, by omega, by omega, by omega, by omega, by omega, by omega, by omega, by omega⟩
theorem pagA_form (x : Int) (h0 : 0 ≤ x) (h1 : x ≤ 18446744073709551615) : ∃ k l c o, pagA x = #[.int .i64 k, .int .i64 l, .int .i64 c, .int .i64 o] ∧ 0 ≤ k ∧ k < 8 ∧ 0 ≤ l ∧ l < 1024 ∧ 0 ≤ c ∧ c < 4 ∧ 0 ≤ o ∧ o < 128 :=
  ⟨_, _, _, _, rfl, by omega, by omega, by omega, by omega, by omega, by omega, by omega, by omega⟩
theorem bitA_form (x : Int) (h0 : 0 ≤ x) (h1 : x ≤ 18446744073709551615) : ∃ m h c u, bitA x = #[.int .u8 m, .bool h, .int .i64 c, .int .u32 u] ∧ 0 ≤ m ∧ m ≤ 255 ∧ 0 ≤ c ∧ c ≤ 6 ∧ (h = false → c = 0) ∧ 0 ≤ u ∧ u ≤ 4294967295 := by
  refine ⟨_, _, _, _, rfl, by omega, by omega, ?_, ?_, ?_, by omega, by omega⟩
  · split <;> omega
  · split <;> omega
  · intro h
    have : ¬ 0 < x / 256 % 8 := by simpa using h
    rw [if_neg this]

theorem refEq (i i' u u' : Int) (m m' : Bool) (h1 : 0 ≤ i) (h2 : i < 16777216) (h3 : 0 ≤ i') (h4 : i' < 16777216) (h5 : 0 ≤ u) (h6 : 0 ≤ u') : (refV i m u == refV i' m' u') = ((i == i') && ((m == m') && (u == u'))) := by
  rw [Bool.eq_iff_iff]
  simp only [beq_iff_eq, Bool.and_eq_true]
  unfold refV
  cases m <;> cases m' <;> simp <;> omega
theorem staEq (k k' s s' o o' u u' : Int) (h1 : 0 ≤ k) (h2 : k < 4) (h3 : 0 ≤ k') (h4 : k' < 4) (s1 : 0 ≤ s) (s2 : s < 65536) (s3 : 0 ≤ s') (s4 : s' < 65536) (o1 : 0 ≤ o) (o2 : o < 4096) (o3 : 0 ≤ o') (o4 : o' < 4096) : (staV k s o u == staV k' s' o' u') = ((k == k') && ((s == s') && ((o == o') && (u == u')))) := by
  rw [Bool.eq_iff_iff]
  simp only [beq_iff_eq, Bool.and_eq_true]
  unfold staV
  omega
theorem pagEq (k k' s s' o o' u u' : Int) (h1 : 0 ≤ k) (h2 : k < 8) (h3 : 0 ≤ k') (h4 : k' < 8) (s1 : 0 ≤ s) (s2 : s < 1024) (s3 : 0 ≤ s') (s4 : s' < 1024) (o1 : 0 ≤ o) (o2 : o < 4) (o3 : 0 ≤ o') (o4 : o' < 4) (u1 : 0 ≤ u) (u2 : u < 128) (u3 : 0 ≤ u') (u4 : u' < 128) : (pagV k s o u == pagV k' s' o' u') = ((k == k') && ((s == s') && ((o == o') && (u == u')))) := by
  rw [Bool.eq_iff_iff]
  simp only [beq_iff_eq, Bool.and_eq_true]
  unfold pagV
  omega
theorem bitEq (m m' c c' u u' : Int) (h h' : Bool) (m1 : 0 ≤ m) (m2 : m ≤ 255) (m3 : 0 ≤ m') (m4 : m' ≤ 255) (c1 : 0 ≤ c) (c2 : c ≤ 6) (c3 : 0 ≤ c') (c4 : c' ≤ 6) (hc : h = false → c = 0) (hc' : h' = false → c' = 0) (u1 : 0 ≤ u) (u2 : 0 ≤ u') : (bitV m h c u == bitV m' h' c' u') = ((m == m') && ((h == h') && ((c == c') && (u == u')))) := by
  rw [Bool.eq_iff_iff]
  simp only [beq_iff_eq, Bool.and_eq_true]
  unfold bitV
  cases h <;> cases h' <;> simp at hc hc' ⊢ <;> omega

/-- block b is a row of cells -/
def At (w : World) (b : Nat) (cs : Array Value) (t : TypeId) : Prop := w.heap[b]? = some (.cells cs t (0, 0))
theorem At.last (w : World) (cs : Array Value) (t : TypeId) : At (w.alloc (.cells cs t)) w.heap.size cs t := heap_alloc_new w _
theorem At.lt {w : World} {b : Nat} {cs : Array Value} {t : TypeId} (h : At w b cs t) : b < w.heap.size := (Array.getElem?_eq_some_iff.1 h).1
theorem At.below {w w' : World} {b : Nat} {cs : Array Value} {t : TypeId} (h : At w b cs t) (hb : Below w.heap.size w w') : At w' b cs t := (hb.block b h.lt).trans h
theorem At.alloc {w : World} {b : Nat} {cs : Array Value} {t : TypeId} (h : At w b cs t) (o : Obj) : At (w.alloc o) b cs t := h.below ((Below.refl _ w).alloc (Nat.le_refl _) o)
theorem At.cell {w : World} {b : Nat} {cs : Array Value} {t : TypeId} (h : At w b cs t) (j : Nat) {v : Value} (hv : cs[j]? = some v) : w.cell? ⟨b, j, none⟩ = some v := (cell_of_row w b j cs t (0, 0) h).trans hv
theorem fits_24 (n : Int) (w : World) (h0 : 0 ≤ n) (h1 : n < 16777216) : Calls Try.prog 24 #[.int .i64 n, .int .i64 24] w fun e w' => e = .returned (.bool true) ∧ w' = w := by
  go_enter Try.func24, Try.ntmps24
  go_wp2
  go_ret
  exact ⟨rfl, rfl⟩
theorem fits_2 (n : Int) (w : World) (h0 : 0 ≤ n) (h1 : n < 4) : Calls Try.prog 24 #[.int .i64 n, .int .i64 2] w fun e w' => e = .returned (.bool true) ∧ w' = w := by
  go_enter Try.func24, Try.ntmps24
  go_wp2
  go_ret
  exact ⟨rfl, rfl⟩
theorem fits_16 (n : Int) (w : World) (h0 : 0 ≤ n) (h1 : n < 65536) : Calls Try.prog 24 #[.int .i64 n, .int .i64 16] w fun e w' => e = .returned (.bool true) ∧ w' = w := by
  go_enter Try.func24, Try.ntmps24
  go_wp2
  go_ret
  exact ⟨rfl, rfl⟩
theorem fits_12 (n : Int) (w : World) (h0 : 0 ≤ n) (h1 : n < 4096) : Calls Try.prog 24 #[.int .i64 n, .int .i64 12] w fun e w' => e = .returned (.bool true) ∧ w' = w := by
  go_enter Try.func24, Try.ntmps24
  go_wp2
  go_ret
  exact ⟨rfl, rfl⟩
theorem fits_3 (n : Int) (w : World) (h0 : 0 ≤ n) (h1 : n < 8) : Calls Try.prog 24 #[.int .i64 n, .int .i64 3] w fun e w' => e = .returned (.bool true) ∧ w' = w := by
  go_enter Try.func24, Try.ntmps24
  go_wp2
  go_ret
  exact ⟨rfl, rfl⟩
theorem fits_10 (n : Int) (w : World) (h0 : 0 ≤ n) (h1 : n < 1024) : Calls Try.prog 24 #[.int .i64 n, .int .i64 10] w fun e w' => e = .returned (.bool true) ∧ w' = w := by
  go_enter Try.func24, Try.ntmps24
  go_wp2
  go_ret
  exact ⟨rfl, rfl⟩
theorem fits_7 (n : Int) (w : World) (h0 : 0 ≤ n) (h1 : n < 128) : Calls Try.prog 24 #[.int .i64 n, .int .i64 7] w fun e w' => e = .returned (.bool true) ∧ w' = w := by
  go_enter Try.func24, Try.ntmps24
  go_wp2
  go_ret
  exact ⟨rfl, rfl⟩
end Go.Proofs.Ytlipnaninocfhaa
