/- The words of a Ref, a State, a Page, of Bits, by the numbers of their fields. Condition: the numbers fit their kinds. -/
import Derived.Test.YtlipnaninocfhaaWf
import Derived.Deep.RegionWith
namespace Go.Proofs.Ytlipnaninocfhaa
open Go.RowKit
set_option linter.unusedVariables false

theorem bnext {a b c : World} (h : Below a.heap.size a b) (k : Below b.heap.size b c) : Below a.heap.size a c := h.trans (k.mono h.size)
theorem bbox (w : World) (o : Obj) (n : Nat) : Below w.heap.size w ((w.alloc o).drewN n) := below_drewN ((Below.refl _ w).alloc (Nat.le_refl _) o) n

def refV (i : Int) (m : Bool) (v : Int) : Int := i % 16777216 + (if m then 16777216 else 0) + v * 4294967296
def staV (k s o v : Int) : Int := k % 4 + s % 65536 * 4 + o % 4096 * 262144 + v * 4294967296
def pagV (k l c o : Int) : Int := k % 8 + l % 1024 * 8 + c % 4 * 8192 + o % 128 * 65536
def bitV (m : Int) (h : Bool) (c v : Int) : Int := m + (if h then (c + 1) % 8 * 256 else 0) + v * 4294967296

theorem or_mid (x y z : Int) (i j : Nat) (hx0 : 0 ≤ x) (hx1 : x < ((2 ^ i : Nat) : Int)) (hz0 : 0 ≤ z) (hz : z % ((2 ^ i : Nat) : Int) = 0) (hxz : x + z < ((2 ^ j : Nat) : Int)) (hy0 : 0 ≤ y) (hy1 : y < 18446744073709551616) (hij : i ≤ j) (hj : j ≤ 64) (hy : y % ((2 ^ j : Nat) : Int) = 0) :
    bits .or .u64 (bits .or .u64 x y) z = x + z + y := by
  have hp : 2 ^ j ≤ 2 ^ 64 := Nat.pow_le_pow_right (by omega) hj
  have hq : 2 ^ i ≤ 2 ^ j := Nat.pow_le_pow_right (by omega) hij
  have e1 : ((y.toNat % 2 ^ j : Nat) : Int) = 0 := by rw [Int.natCast_emod, Int.toNat_of_nonneg hy0]; exact hy
  have e2 : ((z.toNat % 2 ^ i : Nat) : Int) = 0 := by rw [Int.natCast_emod, Int.toNat_of_nonneg hz0]; exact hz
  have n1 : x.toNat ||| z.toNat = x.toNat + z.toNat := or_low_high _ _ i (by omega) (by omega)
  have n2 : (x.toNat + z.toNat) ||| y.toNat = (x.toNat + z.toNat) + y.toNat := or_low_high _ _ j (by omega) (by omega)
  have hb : x.toNat ||| y.toNat < 2 ^ 64 := Nat.or_lt_two_pow (by omega) (by omega)
  rw [u64_or x y hx0 (by omega) hy0 hy1, u64_or _ z (by omega) (by omega) hz0 (by omega), Int.toNat_natCast]
  have n3 : x.toNat ||| y.toNat ||| z.toNat = x.toNat + z.toNat + y.toNat := by
    rw [Nat.or_assoc, Nat.or_comm y.toNat z.toNat, ← Nat.or_assoc, n1, n2]
  omega

set_option maxHeartbeats 1000000 in
theorem refWord (i : Int) (m : Bool) (v : Int) (w : World) (i1 : -9223372036854775808 ≤ i) (i2 : i ≤ 9223372036854775807) (v1 : 0 ≤ v) (v2 : v ≤ 4294967295) :
    Calls Try.prog 9 #[.agg #[.int .i64 i, .bool m, .int .u32 v]] w fun e w' => e = .returned (.int .u64 (refV i m v)) ∧ Below w.heap.size w w' := by
  have E1 := Lib.hid (or_add (i % 16777216 * 1) (v % 4294967296 * 4294967296) 24 (by omega) (by omega) (by omega) (by omega) (by omega) (by omega))
  have E2 := Lib.hid (or_mid (i % 16777216 * 1) (v % 4294967296 * 4294967296) 16777216 24 32 (by omega) (by omega) (by omega) (by omega) (by omega) (by omega) (by omega) (by omega) (by omega) (by omega))
  cases m
  · go_enter Try.func9, Try.ntmps9
    go_wp2_with fail
    go_quiet (first | (go_at_call 28; exact Calls.quiet_of_same (fi_0_24 _ _ i1 i2)) | (go_at_call 29; exact Calls.quiet_of_same (fv_32_32 _ _ v1 v2)))
    go_wp2_with fail
    go_ret
    refine ⟨ret_int ?_, bbox _ _ _⟩
    have e := E1.out
    simp only [Int.mul_one] at e
    rw [e]
    simp only [refV, Bool.false_eq_true, if_false]
    omega
  · go_enter Try.func9, Try.ntmps9
    go_wp2_with fail
    go_quiet (first | (go_at_call 28; exact Calls.quiet_of_same (fi_0_24 _ _ i1 i2)) | (go_at_call 29; exact Calls.quiet_of_same (fv_32_32 _ _ v1 v2)))
    go_wp2_with fail
    go_ret
    refine ⟨ret_int ?_, bbox _ _ _⟩
    have e := E2.out
    simp only [Int.mul_one] at e
    rw [e]
    simp only [refV, if_true]
    omega

set_option maxHeartbeats 1000000 in
theorem staWord (k s o v : Int) (w : World) (k1 : -9223372036854775808 ≤ k) (k2 : k ≤ 9223372036854775807) (s1 : -9223372036854775808 ≤ s) (s2 : s ≤ 9223372036854775807) (o1 : -9223372036854775808 ≤ o) (o2 : o ≤ 9223372036854775807) (v1 : 0 ≤ v) (v2 : v ≤ 4294967295) :
    Calls Try.prog 11 #[.agg #[.int .i64 k, .int .i64 s, .int .i64 o, .int .u32 v]] w fun e w' => e = .returned (.int .u64 (staV k s o v)) ∧ Below w.heap.size w w' := by
  have E1 := Lib.hid (or_add (k % 4) (s % 65536 * 4) 2 (by omega) (by omega) (by omega) (by omega) (by omega) (by omega))
  have E2 := Lib.hid (or_add (k % 4 + s % 65536 * 4) (o % 4096 * 262144) 18 (by omega) (by omega) (by omega) (by omega) (by omega) (by omega))
  have E3 := Lib.hid (or_add (k % 4 + s % 65536 * 4 + o % 4096 * 262144) (v % 4294967296 * 4294967296) 32 (by omega) (by omega) (by omega) (by omega) (by omega) (by omega))
  go_enter Try.func11, Try.ntmps11
  go_wp2_with fail
  go_quiet (first | (go_at_call_of 28 (k); exact Calls.quiet_of_same (fi_0_2 _ _ k1 k2)) | (go_at_call_of 28 (s); exact Calls.quiet_of_same (fi_2_16 _ _ s1 s2)) | (go_at_call_of 28 (o); exact Calls.quiet_of_same (fi_18_12 _ _ o1 o2)) | (go_at_call 29; exact Calls.quiet_of_same (fv_32_32 _ _ v1 v2)))
  go_wp2_with fail
  go_ret
  refine ⟨ret_int ?_, bbox _ _ _⟩
  rw [E1.out, E2.out, E3.out]
  simp only [staV]
  omega

set_option maxHeartbeats 1000000 in
theorem pagWord (k l c o : Int) (w : World) (k1 : -9223372036854775808 ≤ k) (k2 : k ≤ 9223372036854775807) (l1 : -9223372036854775808 ≤ l) (l2 : l ≤ 9223372036854775807) (c1 : -9223372036854775808 ≤ c) (c2 : c ≤ 9223372036854775807) (o1 : -9223372036854775808 ≤ o) (o2 : o ≤ 9223372036854775807) :
    Calls Try.prog 13 #[.agg #[.int .i64 k, .int .i64 l, .int .i64 c, .int .i64 o]] w fun e w' => e = .returned (.int .u64 (pagV k l c o)) ∧ Below w.heap.size w w' := by
  have E1 := Lib.hid (or_add (k % 8) (l % 1024 * 8) 3 (by omega) (by omega) (by omega) (by omega) (by omega) (by omega))
  have E2 := Lib.hid (or_add (k % 8 + l % 1024 * 8) (c % 4 * 8192) 13 (by omega) (by omega) (by omega) (by omega) (by omega) (by omega))
  have E3 := Lib.hid (or_add (k % 8 + l % 1024 * 8 + c % 4 * 8192) (o % 128 * 65536) 16 (by omega) (by omega) (by omega) (by omega) (by omega) (by omega))
  go_enter Try.func13, Try.ntmps13
  go_wp2_with fail
  go_quiet (first | (go_at_call_of 28 (k); exact Calls.quiet_of_same (fi_0_3 _ _ k1 k2)) | (go_at_call_of 28 (l); exact Calls.quiet_of_same (fi_3_10 _ _ l1 l2)) | (go_at_call_of 28 (c); exact Calls.quiet_of_same (fi_13_2 _ _ c1 c2)) | (go_at_call_of 28 (o); exact Calls.quiet_of_same (fi_16_7 _ _ o1 o2)))
  go_wp2_with fail
  go_ret
  refine ⟨ret_int ?_, bbox _ _ _⟩
  rw [E1.out, E2.out, E3.out]
  simp only [pagV]

theorem wrap64_mod8 (c : Int) : wrap64 (c + 1) % 8 = (c + 1) % 8 := by unfold wrap64; omega
theorem wrap64_bd (c : Int) : -9223372036854775808 ≤ wrap64 c ∧ wrap64 c ≤ 9223372036854775807 := by unfold wrap64; omega

set_option maxHeartbeats 1000000 in
theorem bitWord (m : Int) (h : Bool) (c v : Int) (w : World) (m1 : 0 ≤ m) (m2 : m ≤ 255) (v1 : 0 ≤ v) (v2 : v ≤ 4294967295) :
    Calls Try.prog 15 #[.agg #[.int .u8 m, .bool h, .int .i64 c, .int .u32 v]] w fun e w' => e = .returned (.int .u64 (bitV m h c v)) ∧ Below w.heap.size w w' := by
  have E1 := Lib.hid (or_add (m % 256) (v % 4294967296 * 4294967296) 8 (by omega) (by omega) (by omega) (by omega) (by omega) (by omega))
  have E2 := Lib.hid (or_mid (m % 256) (v % 4294967296 * 4294967296) (wrap64 (c + 1) % 8 * 256) 8 32 (by omega) (by omega) (by omega) (by omega) (by omega) (by omega) (by omega) (by omega) (by omega) (by omega))
  have B := wrap64_bd (c + 1)
  cases h
  · go_enter Try.func15, Try.ntmps15
    go_wp2_with fail
    go_quiet (first | (go_at_call 32; exact Calls.quiet_of_same (fb_0_8 _ _ m1 m2)) | (go_at_call 29; exact Calls.quiet_of_same (fv_32_32 _ _ v1 v2)))
    go_wp2_with fail
    go_ret
    refine ⟨ret_int ?_, bbox _ _ _⟩
    rw [E1.out]
    simp only [bitV, Bool.false_eq_true, if_false]
    omega
  · go_enter Try.func15, Try.ntmps15
    go_wp2_with fail
    go_quiet (first | (go_at_call 32; exact Calls.quiet_of_same (fb_0_8 _ _ m1 m2)) | (go_at_call 29; exact Calls.quiet_of_same (fv_32_32 _ _ v1 v2)))
    go_wp2_with fail
    refine (fi_8_3 _ _ B.1 B.2).mono ?_
    rintro e w1 ⟨rfl, rfl⟩
    go_wp2_with fail
    go_ret
    refine ⟨ret_int ?_, bbox _ _ _⟩
    rw [E2.out, wrap64_mod8]
    simp only [bitV, if_true]
    omega
end Go.Proofs.Ytlipnaninocfhaa
