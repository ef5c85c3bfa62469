/- The reference words, cut words, and what the first bits of a map tell, by their numbers. Condition: the numbers fit their kinds. -/
import Derived.Test.YtlipnaninocfhaaWw
import Derived.Test.YtlipnaninocfhaaWr
import Derived.Test.YtlipnaninocfhaaQb
namespace Go.Proofs.Ytlipnaninocfhaa
open Go.RowKit
set_option linter.unusedVariables false

set_option maxHeartbeats 1000000 in
theorem rRef (i : Int) (m : Bool) (v : Int) (w : World) (v1 : 0 ≤ v) (v2 : v ≤ 4294967295) :
    Calls Try.prog 10 #[.int .i64 i, .bool m, .int .u32 v] w fun e w' => e = .returned (.int .u64 (refV i m v)) ∧ w' = w := by
  cases m
  · go_enter Try.func10, Try.ntmps10
    go_wp2_with (first | (go_at_call_of 30 (Value.int IntKind.i64 24); refine (low_any _ 24 24 16777216 _ rfl (by omega) (by decide)).mono ?_; rintro e w' ⟨rfl, rfl⟩) | (go_at_call_of 31 (Value.int IntKind.i64 32); refine (power_any 32 32 4294967296 _ rfl (by omega) (by decide)).mono ?_; rintro e w' ⟨rfl, rfl⟩) | (go_at_call_of 31 (Value.int IntKind.i64 24); refine (power_any 24 24 16777216 _ rfl (by omega) (by decide)).mono ?_; rintro e w' ⟨rfl, rfl⟩))
    go_ret
    refine ⟨ret_int ?_, rfl⟩
    simp only [refV, Bool.false_eq_true, if_false]
    omega
  · go_enter Try.func10, Try.ntmps10
    go_wp2_with (first | (go_at_call_of 30 (Value.int IntKind.i64 24); refine (low_any _ 24 24 16777216 _ rfl (by omega) (by decide)).mono ?_; rintro e w' ⟨rfl, rfl⟩) | (go_at_call_of 31 (Value.int IntKind.i64 32); refine (power_any 32 32 4294967296 _ rfl (by omega) (by decide)).mono ?_; rintro e w' ⟨rfl, rfl⟩) | (go_at_call_of 31 (Value.int IntKind.i64 24); refine (power_any 24 24 16777216 _ rfl (by omega) (by decide)).mono ?_; rintro e w' ⟨rfl, rfl⟩))
    go_ret
    refine ⟨ret_int ?_, rfl⟩
    simp only [refV, if_true]
    omega

set_option maxHeartbeats 1000000 in
theorem rSta (k s o v : Int) (w : World) (v1 : 0 ≤ v) (v2 : v ≤ 4294967295) :
    Calls Try.prog 12 #[.int .i64 k, .int .i64 s, .int .i64 o, .int .u32 v] w fun e w' => e = .returned (.int .u64 (staV k s o v)) ∧ w' = w := by
  go_enter Try.func12, Try.ntmps12
  go_wp2_with (first | (go_at_call_of 30 (Value.int IntKind.i64 2); refine (low_any _ 2 2 4 _ rfl (by omega) (by decide)).mono ?_; rintro e w' ⟨rfl, rfl⟩) | (go_at_call_of 30 (Value.int IntKind.i64 16); refine (low_any _ 16 16 65536 _ rfl (by omega) (by decide)).mono ?_; rintro e w' ⟨rfl, rfl⟩) | (go_at_call_of 30 (Value.int IntKind.i64 12); refine (low_any _ 12 12 4096 _ rfl (by omega) (by decide)).mono ?_; rintro e w' ⟨rfl, rfl⟩) | (go_at_call_of 31 (Value.int IntKind.i64 2); refine (power_any 2 2 4 _ rfl (by omega) (by decide)).mono ?_; rintro e w' ⟨rfl, rfl⟩) | (go_at_call_of 31 (Value.int IntKind.i64 18); refine (power_any 18 18 262144 _ rfl (by omega) (by decide)).mono ?_; rintro e w' ⟨rfl, rfl⟩) | (go_at_call_of 31 (Value.int IntKind.i64 32); refine (power_any 32 32 4294967296 _ rfl (by omega) (by decide)).mono ?_; rintro e w' ⟨rfl, rfl⟩))
  go_ret
  refine ⟨ret_int ?_, rfl⟩
  simp only [staV]

set_option maxHeartbeats 1000000 in
theorem rPag (k l c o : Int) (w : World) :
    Calls Try.prog 14 #[.int .i64 k, .int .i64 l, .int .i64 c, .int .i64 o] w fun e w' => e = .returned (.int .u64 (pagV k l c o)) ∧ w' = w := by
  go_enter Try.func14, Try.ntmps14
  go_wp2_with (first | (go_at_call_of 30 (Value.int IntKind.i64 3); refine (low_any _ 3 3 8 _ rfl (by omega) (by decide)).mono ?_; rintro e w' ⟨rfl, rfl⟩) | (go_at_call_of 30 (Value.int IntKind.i64 10); refine (low_any _ 10 10 1024 _ rfl (by omega) (by decide)).mono ?_; rintro e w' ⟨rfl, rfl⟩) | (go_at_call_of 30 (Value.int IntKind.i64 2); refine (low_any _ 2 2 4 _ rfl (by omega) (by decide)).mono ?_; rintro e w' ⟨rfl, rfl⟩) | (go_at_call_of 30 (Value.int IntKind.i64 7); refine (low_any _ 7 7 128 _ rfl (by omega) (by decide)).mono ?_; rintro e w' ⟨rfl, rfl⟩) | (go_at_call_of 31 (Value.int IntKind.i64 3); refine (power_any 3 3 8 _ rfl (by omega) (by decide)).mono ?_; rintro e w' ⟨rfl, rfl⟩) | (go_at_call_of 31 (Value.int IntKind.i64 13); refine (power_any 13 13 8192 _ rfl (by omega) (by decide)).mono ?_; rintro e w' ⟨rfl, rfl⟩) | (go_at_call_of 31 (Value.int IntKind.i64 16); refine (power_any 16 16 65536 _ rfl (by omega) (by decide)).mono ?_; rintro e w' ⟨rfl, rfl⟩))
  go_ret
  refine ⟨ret_int ?_, rfl⟩
  simp only [pagV]

set_option maxHeartbeats 1000000 in
theorem rBit (m : Int) (h : Bool) (c v : Int) (w : World) (m1 : 0 ≤ m) (m2 : m ≤ 255) (v1 : 0 ≤ v) (v2 : v ≤ 4294967295) :
    Calls Try.prog 16 #[.int .u8 m, .bool h, .int .i64 c, .int .u32 v] w fun e w' => e = .returned (.int .u64 (bitV m h c v)) ∧ w' = w := by
  have HW := Lib.hid (wrap64_mod8 c)
  cases h
  · go_enter Try.func16, Try.ntmps16
    go_wp2_with (first | (go_at_call_of 31 (Value.int IntKind.i64 32); refine (power_any 32 32 4294967296 _ rfl (by omega) (by decide)).mono ?_; rintro e w' ⟨rfl, rfl⟩))
    go_ret
    refine ⟨ret_int ?_, rfl⟩
    simp only [bitV, Bool.false_eq_true, if_false]
    omega
  · go_enter Try.func16, Try.ntmps16
    go_wp2_with (first | (go_at_call_of 30 (Value.int IntKind.i64 3); refine (low_any _ 3 3 8 _ rfl (by omega) (by decide)).mono ?_; rintro e w' ⟨rfl, rfl⟩) | (go_at_call_of 31 (Value.int IntKind.i64 8); refine (power_any 8 8 256 _ rfl (by omega) (by decide)).mono ?_; rintro e w' ⟨rfl, rfl⟩) | (go_at_call_of 31 (Value.int IntKind.i64 32); refine (power_any 32 32 4294967296 _ rfl (by omega) (by decide)).mono ?_; rintro e w' ⟨rfl, rfl⟩))
    go_ret
    refine ⟨ret_int ?_, rfl⟩
    simp only [bitV, if_true, HW.out]
    omega

theorem rVer (x : Int) (w : World) (h0 : 0 ≤ x) (h1 : x ≤ 18446744073709551615) :
    Calls Try.prog 27 #[.int .u64 x] w fun e w' => e = .returned (.int .u32 (x / 4294967296)) ∧ w' = w := by
  go_enter Try.func27, Try.ntmps27
  go_wp2_with (go_at_call_of 31 (Value.int IntKind.i64 32); refine (power_any 32 32 4294967296 _ rfl (by omega) (by decide)).mono ?_; rintro e w' ⟨rfl, rfl⟩)
  go_ret
  refine ⟨ret_int ?_, rfl⟩
  omega

def refA (x : Int) : Array Value := #[.int .i64 (x % 16777216), .bool (x / 16777216 % 2 == 1), .int .u32 (x / 4294967296)]
def staA (x : Int) : Array Value := #[.int .i64 (x % 4), .int .i64 (x / 4 % 65536), .int .i64 (x / 262144 % 4096), .int .u32 (x / 4294967296)]
def pagA (x : Int) : Array Value := #[.int .i64 (x % 8), .int .i64 (x / 8 % 1024), .int .i64 (x / 8192 % 4), .int .i64 (x / 65536 % 128)]
def bitA (x : Int) : Array Value := #[.int .u8 (x % 256), .bool (decide (0 < x / 256 % 8)), .int .i64 (if 0 < x / 256 % 8 then x / 256 % 8 - 1 else 0), .int .u32 (x / 4294967296)]

set_option maxHeartbeats 1000000 in
theorem refOf (x : Int) (w : World) (h0 : 0 ≤ x) (h1 : x ≤ 18446744073709551615) :
    Calls Try.prog 20 #[.int .u64 x] w fun e w' => e = .returned (.agg (refA x)) ∧ Below w.heap.size w w' := by
  go_enter Try.func20, Try.ntmps20
  go_wp2_with fail
  refine (oi_0_24 x _ h0 h1).mono ?_
  rintro e w1 ⟨rfl, k1, rfl⟩
  go_wp2_with fail
  refine (oi_24_1 x _ h0 h1).mono ?_
  rintro e w2 ⟨rfl, k2, rfl⟩
  go_wp2_with fail
  refine (ov_32_32 x _ h0 h1).mono ?_
  rintro e w3 ⟨rfl, k3, rfl⟩
  go_wp2_with fail
  refine bodyPost_ret (v := .agg (refA x)) (by simp [results, Try.results20, go_sem, refA]; try omega) rfl ⟨rfl, ?_⟩
  exact ((((below_drewN ((Below.refl _ w).alloc (Nat.le_refl _) _) _).setCell (Nat.le_refl _) _).setCell (Nat.le_refl _) _).setCell (Nat.le_refl _) _)

set_option maxHeartbeats 1000000 in
theorem staOf (x : Int) (w : World) (h0 : 0 ≤ x) (h1 : x ≤ 18446744073709551615) :
    Calls Try.prog 21 #[.int .u64 x] w fun e w' => e = .returned (.agg (staA x)) ∧ Below w.heap.size w w' := by
  go_enter Try.func21, Try.ntmps21
  go_wp2_with fail
  refine (oi_0_2 x _ h0 h1).mono ?_
  rintro e w1 ⟨rfl, k1, rfl⟩
  go_wp2_with fail
  refine (oi_2_16 x _ h0 h1).mono ?_
  rintro e w2 ⟨rfl, k2, rfl⟩
  go_wp2_with fail
  refine (oi_18_12 x _ h0 h1).mono ?_
  rintro e w3 ⟨rfl, k3, rfl⟩
  go_wp2_with fail
  refine (ov_32_32 x _ h0 h1).mono ?_
  rintro e w4 ⟨rfl, k4, rfl⟩
  go_wp2_with fail
  refine bodyPost_ret (v := .agg (staA x)) (by simp [results, Try.results21, go_sem, staA]; try omega) rfl ⟨rfl, ?_⟩
  exact (((((below_drewN ((Below.refl _ w).alloc (Nat.le_refl _) _) _).setCell (Nat.le_refl _) _).setCell (Nat.le_refl _) _).setCell (Nat.le_refl _) _).setCell (Nat.le_refl _) _)

set_option maxHeartbeats 1000000 in
theorem pagOf (x : Int) (w : World) (h0 : 0 ≤ x) (h1 : x ≤ 18446744073709551615) :
    Calls Try.prog 22 #[.int .u64 x] w fun e w' => e = .returned (.agg (pagA x)) ∧ Below w.heap.size w w' := by
  go_enter Try.func22, Try.ntmps22
  go_wp2_with fail
  refine (oi_0_3 x _ h0 h1).mono ?_
  rintro e w1 ⟨rfl, k1, rfl⟩
  go_wp2_with fail
  refine (oi_3_10 x _ h0 h1).mono ?_
  rintro e w2 ⟨rfl, k2, rfl⟩
  go_wp2_with fail
  refine (oi_13_2 x _ h0 h1).mono ?_
  rintro e w3 ⟨rfl, k3, rfl⟩
  go_wp2_with fail
  refine (oi_16_7 x _ h0 h1).mono ?_
  rintro e w4 ⟨rfl, k4, rfl⟩
  go_wp2_with fail
  refine bodyPost_ret (v := .agg (pagA x)) (by simp [results, Try.results22, go_sem, pagA]; try omega) rfl ⟨rfl, ?_⟩
  exact (((((below_drewN ((Below.refl _ w).alloc (Nat.le_refl _) _) _).setCell (Nat.le_refl _) _).setCell (Nat.le_refl _) _).setCell (Nat.le_refl _) _).setCell (Nat.le_refl _) _)

set_option maxHeartbeats 1000000 in
theorem bitOf (x : Int) (w : World) (h0 : 0 ≤ x) (h1 : x ≤ 18446744073709551615) :
    Calls Try.prog 23 #[.int .u64 x] w fun e w' => e = .returned (.agg (bitA x)) ∧ Below w.heap.size w w' := by
  by_cases hc : 0 < x / 256 % 8
  · go_enter Try.func23, Try.ntmps23
    go_wp2_with fail
    refine (ob_0_8 x _ h0 h1).mono ?_
    rintro e w1 ⟨rfl, k1, rfl⟩
    go_wp2_with fail
    refine (ov_32_32 x _ h0 h1).mono ?_
    rintro e w1 ⟨rfl, k2, rfl⟩
    go_wp2_with fail
    refine (oi_8_3 x _ h0 h1).mono ?_
    rintro e w1 ⟨rfl, k3, rfl⟩
    go_wp2_with fail
    refine bodyPost_ret (v := .agg (bitA x)) (by simp [results, Try.results23, go_sem, bitA, hc]; try omega) rfl ⟨rfl, ?_⟩
    have b0 := (Below.refl w.heap.size w).alloc (Nat.le_refl _) (.cells #[.int .u8 0, .bool false, .int .i64 0, .int .u32 0] 30)
    have b1 := below_drewN b0 (k1 + k2)
    have b2 := b1.alloc b1.size (.cells #[.int .u8 (x % 256), .bool false, .int .i64 0, .int .u32 (x / 4294967296 % 4294967296)] 30)
    have b3 := below_drewN b2 k3
    exact (((((b3.setCell (Nat.le_succ _) _).setCell (Nat.le_succ _) _).setCell (Nat.le_refl _) _).setCell (Nat.le_refl _) _).setCell (Nat.le_refl _) _).setCell (Nat.le_refl _) _
  · go_enter Try.func23, Try.ntmps23
    go_wp2_with fail
    refine (ob_0_8 x _ h0 h1).mono ?_
    rintro e w1 ⟨rfl, k1, rfl⟩
    go_wp2_with fail
    refine (ov_32_32 x _ h0 h1).mono ?_
    rintro e w1 ⟨rfl, k2, rfl⟩
    go_wp2_with fail
    refine (oi_8_3 x _ h0 h1).mono ?_
    rintro e w1 ⟨rfl, k3, rfl⟩
    go_wp2_with fail
    refine bodyPost_ret (v := .agg (bitA x)) (by simp [results, Try.results23, go_sem, bitA, hc]; try omega) rfl ⟨rfl, ?_⟩
    have b0 := (Below.refl w.heap.size w).alloc (Nat.le_refl _) (.cells #[.int .u8 0, .bool false, .int .i64 0, .int .u32 0] 30)
    have b1 := below_drewN b0 (k1 + k2)
    have b2 := b1.alloc b1.size (.cells #[.int .u8 (x % 256), .bool false, .int .i64 0, .int .u32 (x / 4294967296 % 4294967296)] 30)
    have b3 := below_drewN b2 k3
    exact (((b3.setCell (Nat.le_refl _) _).setCell (Nat.le_refl _) _).setCell (Nat.le_refl _) _).setCell (Nat.le_refl _) _

def firI (m : Int) : Int := if m = 0 then -1 else Lib.trailingZeros8 m.toNat
set_option maxHeartbeats 400000 in
theorem first_any (m : Int) (h : Bool) (c v : Int) (w : World) (m1 : 0 ≤ m) (m2 : m ≤ 255) :
    Calls Try.prog 18 #[.agg #[.int .u8 m, .bool h, .int .i64 c, .int .u32 v]] w fun e w' => e = .returned (.int .i64 (firI m)) ∧ Below w.heap.size w w' := by
  by_cases h0 : m = 0
  · subst h0
    go_enter Try.func18, Try.ntmps18
    go_wp2_with fail
    go_ret
    exact ⟨rfl, (Below.refl _ _).alloc (Nat.le_refl _) _⟩
  · have e : firI m = Lib.trailingZeros8 m.toNat := by simp [firI, h0]
    have E := Lib.hid e
    clear e
    go_enter Try.func18, Try.ntmps18
    go_wp2_with fail
    refine (tz_any m _ m1 m2).mono ?_
    rintro e w1 ⟨rfl, rfl⟩
    go_wp2_with fail
    go_ret
    exact ⟨ret_int E.out.symm, (Below.refl _ _).alloc (Nat.le_refl _) _⟩
theorem xor_all : ∀ m : Fin 256, bits .xor .u8 IntKind.u8.max (m.val : Int) = 255 - (m.val : Int) := by decide +kernel
theorem xor_max (m : Int) (m1 : 0 ≤ m) (m2 : m ≤ 255) : bits .xor .u8 IntKind.u8.max m = 255 - m := by
  have := xor_all ⟨m.toNat, by omega⟩
  simpa only [Int.toNat_of_nonneg m1] using this
def fulB (m n : Int) : Bool := decide (n ≤ 8) && decide (n ≤ Lib.trailingZeros8 (255 - m).toNat)
set_option maxHeartbeats 400000 in
theorem full_any (m : Int) (h : Bool) (c v n : Int) (w : World) (m1 : 0 ≤ m) (m2 : m ≤ 255) :
    Calls Try.prog 19 #[.agg #[.int .u8 m, .bool h, .int .i64 c, .int .u32 v], .int .i64 n] w fun e w' => e = .returned (.bool (fulB m n)) ∧ Below w.heap.size w w' := by
  by_cases h0 : 8 < n
  · have e : fulB m n = false := by simp [fulB]; omega
    rw [e]
    go_enter Try.func19, Try.ntmps19
    go_wp2_with fail
    go_ret
    exact ⟨rfl, (Below.refl _ _).alloc (Nat.le_refl _) _⟩
  · have e : fulB m n = decide (n ≤ Lib.trailingZeros8 (255 - m).toNat) := by simp [fulB]; omega
    have E := Lib.hid e
    clear e
    have hx := xor_max m m1 m2
    by_cases hn : 0 ≤ n
    · go_enter Try.func19, Try.ntmps19
      go_wp2_with fail
      refine (tz_any _ _ (by omega) (by omega)).mono ?_
      rintro e w1 ⟨rfl, rfl⟩
      generalize Lib.trailingZeros8 (255 - m).toNat = t at *
      go_wp2_with fail
      go_ret
      exact ⟨ret_bool (by rw [E.out]), (Below.refl _ _).alloc (Nat.le_refl _) _⟩
    · go_enter Try.func19, Try.ntmps19
      go_wp2_with fail
      refine (tz_any _ _ (by omega) (by omega)).mono ?_
      rintro e w1 ⟨rfl, rfl⟩
      generalize Lib.trailingZeros8 (255 - m).toNat = t at *
      go_wp2_with fail
      go_ret
      exact ⟨ret_bool (by rw [E.out]; simp; omega), (Below.refl _ _).alloc (Nat.le_refl _) _⟩
end Go.Proofs.Ytlipnaninocfhaa
