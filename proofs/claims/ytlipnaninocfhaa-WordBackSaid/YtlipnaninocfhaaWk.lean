/- The law WordBack answers true. Condition: the fields fit their kinds. -/
import Derived.Test.YtlipnaninocfhaaWa
namespace Go.Proofs.Ytlipnaninocfhaa
open Go.RowKit
set_option linter.unusedVariables false

theorem iand (n : Int) (m : Nat) (M P : Int) (h1 : -9223372036854775808 ≤ n) (h2 : n ≤ 9223372036854775807) (hM : M = ((2 ^ m - 1 : Nat) : Int)) (hP : ((2 ^ m : Nat) : Int) = P) (hm : m ≤ 62) : bits .and .i64 n M = n % P := by
  have hp : 2 ^ m ≤ 2 ^ 62 := Nat.pow_le_pow_right (by omega) hm
  have hq : 0 < 2 ^ m := Nat.pow_pos (by omega)
  subst hM
  rw [← hP, ← mod_pow n m (by omega)]
  show IntKind.i64.wrap ((BitVec.ofInt 64 n &&& BitVec.ofInt 64 ((2 ^ m - 1 : Nat) : Int)).toNat : Int) = _
  rw [BitVec.toNat_and, ofInt_u64 (2 ^ m - 1) (by omega), Nat.and_two_pow_sub_one_eq_mod, BitVec.toNat_ofInt]
  have e : ((n % ((2 ^ 64 : Nat) : Int)).toNat : Int) = n % 18446744073709551616 := by
    rw [Int.toNat_of_nonneg (Int.emod_nonneg _ (by decide))]; rfl
  have hl : (n % ((2 ^ 64 : Nat) : Int)).toNat % 2 ^ m < 2 ^ m := Nat.mod_lt _ hq
  rw [IntWalk.i64_in _ (by omega), Int.natCast_emod, e]

theorem refV_bd (i : Int) (m : Bool) (v : Int) (v1 : 0 ≤ v) (v2 : v ≤ 4294967295) : 0 ≤ refV i m v ∧ refV i m v ≤ 18446744073709551615 := by
  unfold refV; cases m <;> simp <;> omega
theorem staV_bd (k s o v : Int) (v1 : 0 ≤ v) (v2 : v ≤ 4294967295) : 0 ≤ staV k s o v ∧ staV k s o v ≤ 18446744073709551615 := by
  unfold staV; omega
theorem pagV_bd (k l c o : Int) : 0 ≤ pagV k l c o ∧ pagV k l c o ≤ 18446744073709551615 := by
  unfold pagV; omega
theorem bitV_bd (m : Int) (h : Bool) (c v : Int) (m1 : 0 ≤ m) (m2 : m ≤ 255) (v1 : 0 ≤ v) (v2 : v ≤ 4294967295) : 0 ≤ bitV m h c v ∧ bitV m h c v ≤ 18446744073709551615 := by
  unfold bitV; cases h <;> simp <;> omega
theorem refBack (i : Int) (m : Bool) (v : Int) (i1 : 0 ≤ i) (i2 : i < 16777216) (v1 : 0 ≤ v) (v2 : v ≤ 4294967295) : refA (refV i m v) = #[.int .i64 i, .bool m, .int .u32 v] := by
  unfold refA refV
  cases m
  · rw [show (i % 16777216 + (if false = true then (16777216 : Int) else 0) + v * 4294967296) % 16777216 = i by simp; omega, show (i % 16777216 + (if false = true then (16777216 : Int) else 0) + v * 4294967296) / 16777216 % 2 = 0 by simp; omega, show (i % 16777216 + (if false = true then (16777216 : Int) else 0) + v * 4294967296) / 4294967296 = v by simp; omega]
    rfl
  · rw [show (i % 16777216 + (if true = true then (16777216 : Int) else 0) + v * 4294967296) % 16777216 = i by simp; omega, show (i % 16777216 + (if true = true then (16777216 : Int) else 0) + v * 4294967296) / 16777216 % 2 = 1 by simp; omega, show (i % 16777216 + (if true = true then (16777216 : Int) else 0) + v * 4294967296) / 4294967296 = v by simp; omega]
    rfl
theorem staBack (k s o v : Int) (k1 : 0 ≤ k) (k2 : k < 4) (s1 : 0 ≤ s) (s2 : s < 65536) (o1 : 0 ≤ o) (o2 : o < 4096) (v1 : 0 ≤ v) (v2 : v ≤ 4294967295) : staA (staV k s o v) = #[.int .i64 k, .int .i64 s, .int .i64 o, .int .u32 v] := by
  unfold staA staV
  rw [show (k % 4 + s % 65536 * 4 + o % 4096 * 262144 + v * 4294967296) % 4 = k by omega, show (k % 4 + s % 65536 * 4 + o % 4096 * 262144 + v * 4294967296) / 4 % 65536 = s by omega, show (k % 4 + s % 65536 * 4 + o % 4096 * 262144 + v * 4294967296) / 262144 % 4096 = o by omega, show (k % 4 + s % 65536 * 4 + o % 4096 * 262144 + v * 4294967296) / 4294967296 = v by omega]
theorem pagBack (k l c o : Int) (k1 : 0 ≤ k) (k2 : k < 8) (l1 : 0 ≤ l) (l2 : l < 1024) (c1 : 0 ≤ c) (c2 : c < 4) (o1 : 0 ≤ o) (o2 : o < 128) : pagA (pagV k l c o) = #[.int .i64 k, .int .i64 l, .int .i64 c, .int .i64 o] := by
  unfold pagA pagV
  rw [show (k % 8 + l % 1024 * 8 + c % 4 * 8192 + o % 128 * 65536) % 8 = k by omega, show (k % 8 + l % 1024 * 8 + c % 4 * 8192 + o % 128 * 65536) / 8 % 1024 = l by omega, show (k % 8 + l % 1024 * 8 + c % 4 * 8192 + o % 128 * 65536) / 8192 % 4 = c by omega, show (k % 8 + l % 1024 * 8 + c % 4 * 8192 + o % 128 * 65536) / 65536 % 128 = o by omega]
theorem bitBackF (m v : Int) (m1 : 0 ≤ m) (m2 : m ≤ 255) (v1 : 0 ≤ v) (v2 : v ≤ 4294967295) : bitA (bitV m false 0 v) = #[.int .u8 m, .bool false, .int .i64 0, .int .u32 v] := by
  unfold bitA bitV
  simp only [Bool.false_eq_true, if_false]
  rw [show (m + 0 + v * 4294967296) % 256 = m by omega, show (m + 0 + v * 4294967296) / 256 % 8 = 0 by omega, show (m + 0 + v * 4294967296) / 4294967296 = v by omega]
  rfl
theorem bitBackT (m c v : Int) (m1 : 0 ≤ m) (m2 : m ≤ 255) (c1 : 0 ≤ c) (c2 : c < 4) (v1 : 0 ≤ v) (v2 : v ≤ 4294967295) : bitA (bitV m true c v) = #[.int .u8 m, .bool true, .int .i64 c, .int .u32 v] := by
  unfold bitA bitV
  simp only [if_true]
  rw [show (m + (c + 1) % 8 * 256 + v * 4294967296) % 256 = m by omega, show (m + (c + 1) % 8 * 256 + v * 4294967296) / 256 % 8 = c + 1 by omega, show (m + (c + 1) % 8 * 256 + v * 4294967296) / 4294967296 = v by omega, if_pos (by omega), show c + 1 - 1 = c by omega]
  rw [show decide (0 < c + 1) = true by simp; omega]

set_option maxRecDepth 100000 in
set_option maxHeartbeats 4000000 in
theorem back_walk (ri : Int) (rm : Bool) (rv sk ss so sv pk pl pc po bm : Int) (bh : Bool) (bc bv : Int) (w : World) (ri1 : -9223372036854775808 ≤ ri) (ri2 : ri ≤ 9223372036854775807) (rv1 : 0 ≤ rv) (rv2 : rv ≤ 4294967295) (sk1 : -9223372036854775808 ≤ sk) (sk2 : sk ≤ 9223372036854775807) (ss1 : -9223372036854775808 ≤ ss) (ss2 : ss ≤ 9223372036854775807) (so1 : -9223372036854775808 ≤ so) (so2 : so ≤ 9223372036854775807) (sv1 : 0 ≤ sv) (sv2 : sv ≤ 4294967295) (pk1 : -9223372036854775808 ≤ pk) (pk2 : pk ≤ 9223372036854775807) (pl1 : -9223372036854775808 ≤ pl) (pl2 : pl ≤ 9223372036854775807) (pc1 : -9223372036854775808 ≤ pc) (pc2 : pc ≤ 9223372036854775807) (po1 : -9223372036854775808 ≤ po) (po2 : po ≤ 9223372036854775807) (bm1 : 0 ≤ bm) (bm2 : bm ≤ 255) (bc1 : -9223372036854775808 ≤ bc) (bc2 : bc ≤ 9223372036854775807) (bv1 : 0 ≤ bv) (bv2 : bv ≤ 4294967295) :
    Calls Try.prog 5 #[.agg #[.int .i64 ri, .bool rm, .int .u32 rv], .agg #[.int .i64 sk, .int .i64 ss, .int .i64 so, .int .u32 sv], .agg #[.int .i64 pk, .int .i64 pl, .int .i64 pc, .int .i64 po], .agg #[.int .u8 bm, .bool bh, .int .i64 bc, .int .u32 bv]] w fun e w' => e = .returned (.bool true) ∧ Below w.heap.size w w' := by
  obtain ⟨I, I1, I2, iI⟩ : ∃ I, 0 ≤ I ∧ I < 16777216 ∧ bits .and .i64 ri 16777215 = I := ⟨_, Int.emod_nonneg _ (by omega), Int.emod_lt_of_pos _ (by omega), iand ri 24 16777215 16777216 ri1 ri2 (by decide) (by decide) (by omega)⟩
  obtain ⟨K, K1, K2, iK⟩ : ∃ K, 0 ≤ K ∧ K < 4 ∧ bits .and .i64 sk 3 = K := ⟨_, Int.emod_nonneg _ (by omega), Int.emod_lt_of_pos _ (by omega), iand sk 2 3 4 sk1 sk2 (by decide) (by decide) (by omega)⟩
  obtain ⟨S, S1, S2, iS⟩ : ∃ S, 0 ≤ S ∧ S < 65536 ∧ bits .and .i64 ss 65535 = S := ⟨_, Int.emod_nonneg _ (by omega), Int.emod_lt_of_pos _ (by omega), iand ss 16 65535 65536 ss1 ss2 (by decide) (by decide) (by omega)⟩
  obtain ⟨O, O1, O2, iO⟩ : ∃ O, 0 ≤ O ∧ O < 4096 ∧ bits .and .i64 so 4095 = O := ⟨_, Int.emod_nonneg _ (by omega), Int.emod_lt_of_pos _ (by omega), iand so 12 4095 4096 so1 so2 (by decide) (by decide) (by omega)⟩
  obtain ⟨A, A1, A2, iA⟩ : ∃ A, 0 ≤ A ∧ A < 8 ∧ bits .and .i64 pk 7 = A := ⟨_, Int.emod_nonneg _ (by omega), Int.emod_lt_of_pos _ (by omega), iand pk 3 7 8 pk1 pk2 (by decide) (by decide) (by omega)⟩
  obtain ⟨L, L1, L2, iL⟩ : ∃ L, 0 ≤ L ∧ L < 1024 ∧ bits .and .i64 pl 1023 = L := ⟨_, Int.emod_nonneg _ (by omega), Int.emod_lt_of_pos _ (by omega), iand pl 10 1023 1024 pl1 pl2 (by decide) (by decide) (by omega)⟩
  obtain ⟨D, D1, D2, iD⟩ : ∃ D, 0 ≤ D ∧ D < 4 ∧ bits .and .i64 pc 3 = D := ⟨_, Int.emod_nonneg _ (by omega), Int.emod_lt_of_pos _ (by omega), iand pc 2 3 4 pc1 pc2 (by decide) (by decide) (by omega)⟩
  obtain ⟨E, E1, E2, iE⟩ : ∃ E, 0 ≤ E ∧ E < 128 ∧ bits .and .i64 po 127 = E := ⟨_, Int.emod_nonneg _ (by omega), Int.emod_lt_of_pos _ (by omega), iand po 7 127 128 po1 po2 (by decide) (by decide) (by omega)⟩
  obtain ⟨F, F1, F2, iF⟩ : ∃ F, 0 ≤ F ∧ F < 4 ∧ bits .and .i64 bc 3 = F := ⟨_, Int.emod_nonneg _ (by omega), Int.emod_lt_of_pos _ (by omega), iand bc 2 3 4 bc1 bc2 (by decide) (by decide) (by omega)⟩
  have f1 := refBack I rm rv I1 I2 rv1 rv2
  have f2 := staBack K S O sv K1 K2 S1 S2 O1 O2 sv1 sv2
  have f3 := pagBack A L D E A1 A2 L1 L2 D1 D2 E1 E2
  have g1 := refV_bd I rm rv rv1 rv2
  have g2 := staV_bd K S O sv sv1 sv2
  have g3 := pagV_bd A L D E
  cases bh
  · have f4 := bitBackF bm bv bm1 bm2 bv1 bv2
    have g4 := bitV_bd bm false 0 bv bm1 bm2 bv1 bv2
    go_enter Try.func5, Try.ntmps5
    go_wp2_with fail
    clear iI iK iS iO iA iL iD iE iF
    generalize hW : World.alloc _ _ = W
    have hB : Below w.heap.size w W := by
      rw [← hW]
      exact ((((Below.refl _ w).alloc (Nat.le_refl _) _).alloc (by simp) _).alloc (by simp; omega) _).alloc (by simp; omega) _
    have c00 := bel_cell (w := W) (a := ⟨w.heap.size, 0, none⟩) (v := .int .i64 I) (by rw [← hW]; exact cell_old (cell_old (cell_old ((cell_last _ _ _ _ 0 (by first | rfl | simp)).trans rfl))))
    have c01 := bel_cell (w := W) (a := ⟨w.heap.size, 1, none⟩) (v := .bool rm) (by rw [← hW]; exact cell_old (cell_old (cell_old ((cell_last _ _ _ _ 1 (by first | rfl | simp)).trans rfl))))
    have c02 := bel_cell (w := W) (a := ⟨w.heap.size, 2, none⟩) (v := .int .u32 rv) (by rw [← hW]; exact cell_old (cell_old (cell_old ((cell_last _ _ _ _ 2 (by first | rfl | simp)).trans rfl))))
    have c10 := bel_cell (w := W) (a := ⟨w.heap.size + 1, 0, none⟩) (v := .int .i64 K) (by rw [← hW]; exact cell_old (cell_old ((cell_last _ _ _ _ 0 (by first | rfl | simp)).trans rfl)))
    have c11 := bel_cell (w := W) (a := ⟨w.heap.size + 1, 1, none⟩) (v := .int .i64 S) (by rw [← hW]; exact cell_old (cell_old ((cell_last _ _ _ _ 1 (by first | rfl | simp)).trans rfl)))
    have c12 := bel_cell (w := W) (a := ⟨w.heap.size + 1, 2, none⟩) (v := .int .i64 O) (by rw [← hW]; exact cell_old (cell_old ((cell_last _ _ _ _ 2 (by first | rfl | simp)).trans rfl)))
    have c13 := bel_cell (w := W) (a := ⟨w.heap.size + 1, 3, none⟩) (v := .int .u32 sv) (by rw [← hW]; exact cell_old (cell_old ((cell_last _ _ _ _ 3 (by first | rfl | simp)).trans rfl)))
    have c20 := bel_cell (w := W) (a := ⟨w.heap.size + 1 + 1, 0, none⟩) (v := .int .i64 A) (by rw [← hW]; exact cell_old ((cell_last _ _ _ _ 0 (by first | rfl | simp)).trans rfl))
    have c21 := bel_cell (w := W) (a := ⟨w.heap.size + 1 + 1, 1, none⟩) (v := .int .i64 L) (by rw [← hW]; exact cell_old ((cell_last _ _ _ _ 1 (by first | rfl | simp)).trans rfl))
    have c22 := bel_cell (w := W) (a := ⟨w.heap.size + 1 + 1, 2, none⟩) (v := .int .i64 D) (by rw [← hW]; exact cell_old ((cell_last _ _ _ _ 2 (by first | rfl | simp)).trans rfl))
    have c23 := bel_cell (w := W) (a := ⟨w.heap.size + 1 + 1, 3, none⟩) (v := .int .i64 E) (by rw [← hW]; exact cell_old ((cell_last _ _ _ _ 3 (by first | rfl | simp)).trans rfl))
    have c30 := bel_cell (w := W) (a := ⟨w.heap.size + 1 + 1 + 1, 0, none⟩) (v := .int .u8 bm) (by rw [← hW]; exact (cell_last _ _ _ _ 0 (by first | rfl | simp)).trans rfl)
    have c31 := bel_cell (w := W) (a := ⟨w.heap.size + 1 + 1 + 1, 1, none⟩) (v := .bool false) (by rw [← hW]; exact (cell_last _ _ _ _ 1 (by first | rfl | simp)).trans rfl)
    have c32 := bel_cell (w := W) (a := ⟨w.heap.size + 1 + 1 + 1, 2, none⟩) (v := .int .i64 0) (by rw [← hW]; exact (cell_last _ _ _ _ 2 (by first | rfl | simp)).trans rfl)
    have c33 := bel_cell (w := W) (a := ⟨w.heap.size + 1 + 1 + 1, 3, none⟩) (v := .int .u32 bv) (by rw [← hW]; exact (cell_last _ _ _ _ 3 (by first | rfl | simp)).trans rfl)
    clear hW
    refine region_below (by kernel_rfl) (by kernel_rfl) ?_
    repeat (go_big_quiet_step (first
      | (go_at_call 9; exact below_of (refWord _ _ _ _ (by omega) (by omega) rv1 rv2))
      | (go_at_call 20; exact below_of (refOf _ _ g1.1 g1.2))
      | (go_at_call 11; exact below_of (staWord _ _ _ _ _ (by omega) (by omega) (by omega) (by omega) (by omega) (by omega) sv1 sv2))
      | (go_at_call 21; exact below_of (staOf _ _ g2.1 g2.2))
      | (go_at_call 13; exact below_of (pagWord _ _ _ _ _ (by omega) (by omega) (by omega) (by omega) (by omega) (by omega) (by omega) (by omega)))
      | (go_at_call 22; exact below_of (pagOf _ _ g3.1 g3.2))
      | (go_at_call 15; exact below_of (bitWord _ _ _ _ _ bm1 bm2 bv1 bv2))
      | (go_at_call 23; exact below_of (bitOf _ _ g4.1 g4.2))
      | (go_at_call 17; exact below_of (awake_any _))))
    refine wpQuiet_nil ?_
    intro w5 hw5
    obtain ⟨s, rfl⟩ := hw5
    have b5 := s.2
    generalize s.1 = W5 at *
    go_wp2_with fail
    go_ret
    exact ⟨rfl, bnext hB b5⟩
  · have f4 := bitBackT bm F bv bm1 bm2 F1 F2 bv1 bv2
    have g4 := bitV_bd bm true F bv bm1 bm2 bv1 bv2
    go_enter Try.func5, Try.ntmps5
    go_wp2_with fail
    clear iI iK iS iO iA iL iD iE iF
    generalize hW : World.alloc _ _ = W
    have hB : Below w.heap.size w W := by
      rw [← hW]
      exact ((((Below.refl _ w).alloc (Nat.le_refl _) _).alloc (by simp) _).alloc (by simp; omega) _).alloc (by simp; omega) _
    have c00 := bel_cell (w := W) (a := ⟨w.heap.size, 0, none⟩) (v := .int .i64 I) (by rw [← hW]; exact cell_old (cell_old (cell_old ((cell_last _ _ _ _ 0 (by first | rfl | simp)).trans rfl))))
    have c01 := bel_cell (w := W) (a := ⟨w.heap.size, 1, none⟩) (v := .bool rm) (by rw [← hW]; exact cell_old (cell_old (cell_old ((cell_last _ _ _ _ 1 (by first | rfl | simp)).trans rfl))))
    have c02 := bel_cell (w := W) (a := ⟨w.heap.size, 2, none⟩) (v := .int .u32 rv) (by rw [← hW]; exact cell_old (cell_old (cell_old ((cell_last _ _ _ _ 2 (by first | rfl | simp)).trans rfl))))
    have c10 := bel_cell (w := W) (a := ⟨w.heap.size + 1, 0, none⟩) (v := .int .i64 K) (by rw [← hW]; exact cell_old (cell_old ((cell_last _ _ _ _ 0 (by first | rfl | simp)).trans rfl)))
    have c11 := bel_cell (w := W) (a := ⟨w.heap.size + 1, 1, none⟩) (v := .int .i64 S) (by rw [← hW]; exact cell_old (cell_old ((cell_last _ _ _ _ 1 (by first | rfl | simp)).trans rfl)))
    have c12 := bel_cell (w := W) (a := ⟨w.heap.size + 1, 2, none⟩) (v := .int .i64 O) (by rw [← hW]; exact cell_old (cell_old ((cell_last _ _ _ _ 2 (by first | rfl | simp)).trans rfl)))
    have c13 := bel_cell (w := W) (a := ⟨w.heap.size + 1, 3, none⟩) (v := .int .u32 sv) (by rw [← hW]; exact cell_old (cell_old ((cell_last _ _ _ _ 3 (by first | rfl | simp)).trans rfl)))
    have c20 := bel_cell (w := W) (a := ⟨w.heap.size + 1 + 1, 0, none⟩) (v := .int .i64 A) (by rw [← hW]; exact cell_old ((cell_last _ _ _ _ 0 (by first | rfl | simp)).trans rfl))
    have c21 := bel_cell (w := W) (a := ⟨w.heap.size + 1 + 1, 1, none⟩) (v := .int .i64 L) (by rw [← hW]; exact cell_old ((cell_last _ _ _ _ 1 (by first | rfl | simp)).trans rfl))
    have c22 := bel_cell (w := W) (a := ⟨w.heap.size + 1 + 1, 2, none⟩) (v := .int .i64 D) (by rw [← hW]; exact cell_old ((cell_last _ _ _ _ 2 (by first | rfl | simp)).trans rfl))
    have c23 := bel_cell (w := W) (a := ⟨w.heap.size + 1 + 1, 3, none⟩) (v := .int .i64 E) (by rw [← hW]; exact cell_old ((cell_last _ _ _ _ 3 (by first | rfl | simp)).trans rfl))
    have c30 := bel_cell (w := W) (a := ⟨w.heap.size + 1 + 1 + 1, 0, none⟩) (v := .int .u8 bm) (by rw [← hW]; exact (cell_last _ _ _ _ 0 (by first | rfl | simp)).trans rfl)
    have c31 := bel_cell (w := W) (a := ⟨w.heap.size + 1 + 1 + 1, 1, none⟩) (v := .bool true) (by rw [← hW]; exact (cell_last _ _ _ _ 1 (by first | rfl | simp)).trans rfl)
    have c32 := bel_cell (w := W) (a := ⟨w.heap.size + 1 + 1 + 1, 2, none⟩) (v := .int .i64 F) (by rw [← hW]; exact (cell_last _ _ _ _ 2 (by first | rfl | simp)).trans rfl)
    have c33 := bel_cell (w := W) (a := ⟨w.heap.size + 1 + 1 + 1, 3, none⟩) (v := .int .u32 bv) (by rw [← hW]; exact (cell_last _ _ _ _ 3 (by first | rfl | simp)).trans rfl)
    clear hW
    refine region_below (by kernel_rfl) (by kernel_rfl) ?_
    repeat (go_big_quiet_step (first
      | (go_at_call 9; exact below_of (refWord _ _ _ _ (by omega) (by omega) rv1 rv2))
      | (go_at_call 20; exact below_of (refOf _ _ g1.1 g1.2))
      | (go_at_call 11; exact below_of (staWord _ _ _ _ _ (by omega) (by omega) (by omega) (by omega) (by omega) (by omega) sv1 sv2))
      | (go_at_call 21; exact below_of (staOf _ _ g2.1 g2.2))
      | (go_at_call 13; exact below_of (pagWord _ _ _ _ _ (by omega) (by omega) (by omega) (by omega) (by omega) (by omega) (by omega) (by omega)))
      | (go_at_call 22; exact below_of (pagOf _ _ g3.1 g3.2))
      | (go_at_call 15; exact below_of (bitWord _ _ _ _ _ bm1 bm2 bv1 bv2))
      | (go_at_call 23; exact below_of (bitOf _ _ g4.1 g4.2))
      | (go_at_call 17; exact below_of (awake_any _))))
    refine wpQuiet_nil ?_
    intro w5 hw5
    obtain ⟨s, rfl⟩ := hw5
    have b5 := s.2
    generalize s.1 = W5 at *
    go_wp2_with fail
    go_ret
    exact ⟨rfl, bnext hB b5⟩
end Go.Proofs.Ytlipnaninocfhaa
