/- The law WordReads answers true. Condition: the numbers fit their kinds. -/
import Derived.Test.YtlipnaninocfhaaWd
namespace Go.Proofs.Ytlipnaninocfhaa
open Go.RowKit
set_option linter.unusedVariables false

theorem field_0 (x : Int) (m : Nat) (mn M : Int) (w : World) (hm : mn = (m : Int)) (hm1 : m ≤ 40) (h0 : 0 ≤ x) (h1 : x ≤ 18446744073709551615) (hM : ((2 ^ m : Nat) : Int) = M) :
    Calls Try.prog 25 #[.int .u64 x, .int .i64 0, .int .i64 mn] w fun e w' => e = .returned (.int .i64 (x % M)) ∧ w' = w := by
  have h := field_c x 0 m 0 mn 1 M w rfl hm (by omega) hm1 h0 h1 rfl hM
  rwa [Int.ediv_one] at h
theorem fi_hit (x : Int) (r : Nat) (P : Int) (hP : ((2 ^ (7 - r) : Nat) : Int) = P) (h : x / P % 2 = 1) : fiR x (r + 1) = ((7 - r : Nat) : Int) := by rw [fiR, hP, if_pos h]
theorem fi_miss (x : Int) (r : Nat) (P : Int) (hP : ((2 ^ (7 - r) : Nat) : Int) = P) (h : ¬ x / P % 2 = 1) : fiR x (r + 1) = fiR x r := by rw [fiR, hP, if_neg h]
theorem fu_hit (x n : Int) (r : Nat) (P : Int) (hP : ((2 ^ (7 - r) : Nat) : Int) = P) (h : x / P % 2 = 1) : fuR x n (r + 1) = fuR x n r := by rw [fuR, hP, if_pos h]
theorem fu_no (x n : Int) (r : Nat) (P : Int) (hP : ((2 ^ (7 - r) : Nat) : Int) = P) (h : ¬ x / P % 2 = 1) (h' : ((7 - r : Nat) : Int) < n) : fuR x n (r + 1) = false := by rw [fuR, hP, if_neg h, if_pos h']
theorem fu_yes (x n : Int) (r : Nat) (P : Int) (hP : ((2 ^ (7 - r) : Nat) : Int) = P) (h : ¬ x / P % 2 = 1) (h' : ¬ ((7 - r : Nat) : Int) < n) : fuR x n (r + 1) = fuR x n r := by rw [fuR, hP, if_neg h, if_neg h']

set_option maxRecDepth 100000 in
set_option maxHeartbeats 16000000 in
theorem reads_t (x n : Int) (w : World) (x1 : 0 ≤ x) (x2 : x ≤ 18446744073709551615) (n1 : -9223372036854775808 ≤ n) (n2 : n ≤ 9223372036854775807) (hc : 0 < x / 256 % 8) :
    Calls Try.prog 8 #[.int .u64 x, .int .i64 n] w fun e w' => e = .returned (.bool true) ∧ Below w.heap.size w w' := by
  have E0 := Lib.hid (show refA x = #[.int .i64 (x % 16777216), .bool ((x / 16777216 % 2 == 1)), .int .u32 ((x / 4294967296))] from rfl)
  have E1 := Lib.hid (show staA x = #[.int .i64 (x % 4), .int .i64 (x / 4 % 65536), .int .i64 (x / 262144 % 4096), .int .u32 (x / 4294967296)] from rfl)
  have E2 := Lib.hid (show pagA x = #[.int .i64 (x % 8), .int .i64 (x / 8 % 1024), .int .i64 (x / 8192 % 4), .int .i64 (x / 65536 % 128)] from rfl)
  have E3 : Hid (bitA x = #[.int .u8 (x % 256), .bool (true), .int .i64 (x / 256 % 8 - 1), .int .u32 (x / 4294967296)]) := by
    show bitA x = _
    unfold bitA
    rw [if_pos hc, decide_eq_true hc]
  have f1 := Lib.hid (first_eq x)
  have f2 := Lib.hid (full_eq x n)
  go_enter Try.func8, Try.ntmps8
  go_wp2_with fail
  refine (refOf x _ x1 x2).mono ?_
  rintro e w1 ⟨rfl, b1_⟩
  rw [E0.out]
  have hB1 := b1_
  clear b1_
  have hB1a := hB1.alloc hB1.size (.cells #[.int .i64 (x % 16777216), .bool ((x / 16777216 % 2 == 1)), .int .u32 ((x / 4294967296))] 24)
  have A1 := At.last w1 #[.int .i64 (x % 16777216), .bool ((x / 16777216 % 2 == 1)), .int .u32 ((x / 4294967296))] 24
  go_wp2_with fail
  refine (staOf x _ x1 x2).mono ?_
  rintro e w2 ⟨rfl, b2_⟩
  rw [E1.out]
  have hB2 := bnext hB1a b2_
  have A1 := A1.below b2_
  clear b2_
  have hB2a := hB2.alloc hB2.size (.cells #[.int .i64 (x % 4), .int .i64 (x / 4 % 65536), .int .i64 (x / 262144 % 4096), .int .u32 (x / 4294967296)] 26)
  have A1 := A1.alloc (.cells #[.int .i64 (x % 4), .int .i64 (x / 4 % 65536), .int .i64 (x / 262144 % 4096), .int .u32 (x / 4294967296)] 26)
  have A2 := At.last w2 #[.int .i64 (x % 4), .int .i64 (x / 4 % 65536), .int .i64 (x / 262144 % 4096), .int .u32 (x / 4294967296)] 26
  go_wp2_with fail
  refine (pagOf x _ x1 x2).mono ?_
  rintro e w3 ⟨rfl, b3_⟩
  rw [E2.out]
  have hB3 := bnext hB2a b3_
  have A1 := A1.below b3_
  have A2 := A2.below b3_
  clear b3_
  have hB3a := hB3.alloc hB3.size (.cells #[.int .i64 (x % 8), .int .i64 (x / 8 % 1024), .int .i64 (x / 8192 % 4), .int .i64 (x / 65536 % 128)] 28)
  have A1 := A1.alloc (.cells #[.int .i64 (x % 8), .int .i64 (x / 8 % 1024), .int .i64 (x / 8192 % 4), .int .i64 (x / 65536 % 128)] 28)
  have A2 := A2.alloc (.cells #[.int .i64 (x % 8), .int .i64 (x / 8 % 1024), .int .i64 (x / 8192 % 4), .int .i64 (x / 65536 % 128)] 28)
  have A3 := At.last w3 #[.int .i64 (x % 8), .int .i64 (x / 8 % 1024), .int .i64 (x / 8192 % 4), .int .i64 (x / 65536 % 128)] 28
  go_wp2_with fail
  refine (bitOf x _ x1 x2).mono ?_
  rintro e w4 ⟨rfl, b4_⟩
  rw [E3.out]
  have hB4 := bnext hB3a b4_
  have A1 := A1.below b4_
  have A2 := A2.below b4_
  have A3 := A3.below b4_
  clear b4_
  have hB4a := hB4.alloc hB4.size (.cells #[.int .u8 (x % 256), .bool (true), .int .i64 (x / 256 % 8 - 1), .int .u32 (x / 4294967296)] 30)
  have A1 := A1.alloc (.cells #[.int .u8 (x % 256), .bool (true), .int .i64 (x / 256 % 8 - 1), .int .u32 (x / 4294967296)] 30)
  have A2 := A2.alloc (.cells #[.int .u8 (x % 256), .bool (true), .int .i64 (x / 256 % 8 - 1), .int .u32 (x / 4294967296)] 30)
  have A3 := A3.alloc (.cells #[.int .u8 (x % 256), .bool (true), .int .i64 (x / 256 % 8 - 1), .int .u32 (x / 4294967296)] 30)
  have A4 := At.last w4 #[.int .u8 (x % 256), .bool (true), .int .i64 (x / 256 % 8 - 1), .int .u32 (x / 4294967296)] 30
  go_wp2_with fail
  generalize hW : World.alloc w4 _ = W at *
  clear hW hB1 hB1a hB2 hB2a hB3 hB3a hB4
  have q0 := bel_cell (A1.cell 0 rfl)
  have q1 := bel_cell (A1.cell 1 rfl)
  have q2 := bel_cell (A1.cell 2 rfl)
  refine region_below (by kernel_rfl) (by kernel_rfl) ?_
  repeat (go_big_quiet_step (first | (go_at_call_of 25 (Value.int IntKind.i64 24); exact below_same (field_0 x 24 _ 16777216 _ rfl (by omega) x1 x2 (by decide))) | (go_at_call 26; exact below_same (bit_any x _ 24 16777216 _ rfl (by omega) x1 x2 (by decide))) | (go_at_call 27; exact below_same (rVer _ _ x1 x2))))
  refine wpQuiet_nil ?_
  intro v1 hv1
  obtain ⟨s1, rfl⟩ := hv1
  have d1 := s1.2
  have A2 := A2.below d1
  have A3 := A3.below d1
  have A4 := A4.below d1
  have hC1 := bnext hB4a d1
  clear d1 q0 q1 q2
  generalize s1.1 = V1 at *
  go_wp2_with fail
  have q0 := bel_cell (A2.cell 0 rfl)
  have q1 := bel_cell (A2.cell 1 rfl)
  have q2 := bel_cell (A2.cell 2 rfl)
  have q3 := bel_cell (A2.cell 3 rfl)
  refine region_below (by kernel_rfl) (by kernel_rfl) ?_
  repeat (go_big_quiet_step (first | (go_at_call_of 25 (Value.int IntKind.i64 16); exact below_same (field_c x 2 16 _ _ 4 65536 _ rfl rfl (by omega) (by omega) x1 x2 (by decide) (by decide))) | (go_at_call_of 25 (Value.int IntKind.i64 12); exact below_same (field_c x 18 12 _ _ 262144 4096 _ rfl rfl (by omega) (by omega) x1 x2 (by decide) (by decide))) | (go_at_call_of 25 (Value.int IntKind.i64 2); exact below_same (field_0 x 2 _ 4 _ rfl (by omega) x1 x2 (by decide))) | (go_at_call 27; exact below_same (rVer _ _ x1 x2))))
  refine wpQuiet_nil ?_
  intro v2 hv2
  obtain ⟨s2, rfl⟩ := hv2
  have d2 := s2.2
  have A3 := A3.below d2
  have A4 := A4.below d2
  have hC2 := bnext hC1 d2
  clear d2 q0 q1 q2 q3
  generalize s2.1 = V2 at *
  go_wp2_with fail
  have q0 := bel_cell (A3.cell 0 rfl)
  have q1 := bel_cell (A3.cell 1 rfl)
  have q2 := bel_cell (A3.cell 2 rfl)
  have q3 := bel_cell (A3.cell 3 rfl)
  refine region_below (by kernel_rfl) (by kernel_rfl) ?_
  repeat (go_big_quiet_step (first | (go_at_call_of 25 (Value.int IntKind.i64 10); exact below_same (field_c x 3 10 _ _ 8 1024 _ rfl rfl (by omega) (by omega) x1 x2 (by decide) (by decide))) | (go_at_call_of 25 (Value.int IntKind.i64 13); exact below_same (field_c x 13 2 _ _ 8192 4 _ rfl rfl (by omega) (by omega) x1 x2 (by decide) (by decide))) | (go_at_call_of 25 (Value.int IntKind.i64 7); exact below_same (field_c x 16 7 _ _ 65536 128 _ rfl rfl (by omega) (by omega) x1 x2 (by decide) (by decide))) | (go_at_call_of 25 (Value.int IntKind.i64 3); exact below_same (field_0 x 3 _ 8 _ rfl (by omega) x1 x2 (by decide)))))
  refine wpQuiet_nil ?_
  intro v3 hv3
  obtain ⟨s3, rfl⟩ := hv3
  have d3 := s3.2
  have A4 := A4.below d3
  have hC3 := bnext hC2 d3
  clear d3 q0 q1 q2 q3
  generalize s3.1 = V3 at *
  go_wp2_with fail
  refine (field_c x 8 3 _ _ 256 8 _ rfl rfl (by omega) (by omega) x1 x2 (by decide) (by decide)).mono ?_
  rintro e v ⟨rfl, rfl⟩
  go_wp2_with fail
  have q0 := bel_cell (A4.cell 0 rfl)
  have q1 := bel_cell (A4.cell 1 rfl)
  have q2 := bel_cell (A4.cell 2 rfl)
  have q3 := bel_cell (A4.cell 3 rfl)
  have hm1 : 0 ≤ x / 256 % 8 - 1 := by omega
  refine region_below (by kernel_rfl) (by kernel_rfl) ?_
  repeat (go_big_quiet_step (first | (go_at_call_of 25 (Value.int IntKind.i64 8); exact below_same (field_0 x 8 _ 256 _ rfl (by omega) x1 x2 (by decide))) | (go_at_call 27; exact below_same (rVer _ _ x1 x2))))
  refine wpQuiet_nil ?_
  intro v4 hv4
  obtain ⟨s4, rfl⟩ := hv4
  have d4 := s4.2
  have A4 := A4.below d4
  have hC4 := bnext hC3 d4
  clear d4 q0 q1 q2 q3
  generalize s4.1 = V4 at *
  go_wp2_with fail
  go_loop [10, 11, 12] (fun fi fu i => ∃ (r : Nat) (I : Int), r ≤ 8 ∧ I = 7 - (r : Int) ∧ i = .int .i64 I ∧ fi = .int .i64 (fiR x r) ∧ fu = .bool (fuR x n r)) (fun _ _ i => (intOf i + 1).toNat)
  case atStart => exact ⟨0, 7, by omega, by omega, rfl, rfl, rfl⟩
  case round =>
    obtain ⟨r, I, hr, hI, rfl, rfl, rfl⟩ := hrel
    rcases (show r = 0 ∨ r = 1 ∨ r = 2 ∨ r = 3 ∨ r = 4 ∨ r = 5 ∨ r = 6 ∨ r = 7 ∨ r = 8 by omega) with rfl | rfl | rfl | rfl | rfl | rfl | rfl | rfl | rfl
    · obtain rfl : I = 7 := by omega
      clear hI
      have hb1 := fun h => fi_hit x 0 128 (by decide) h
      have hb2 := fun h => fi_miss x 0 128 (by decide) h
      have hu1 := fun h => fu_hit x n 0 128 (by decide) h
      have hu2 := fun h h' => fu_no x n 0 128 (by decide) h h'
      have hu3 := fun h h' => fu_yes x n 0 128 (by decide) h h'
      have HB1 := Lib.hid hb1
      have HB2 := Lib.hid hb2
      have HU1 := Lib.hid hu1
      have HU2 := Lib.hid hu2
      have HU3 := Lib.hid hu3
      clear hb1 hb2 hu1 hu2 hu3
      generalize fiR x 0 = fi at *
      generalize fuR x n 0 = fu at *
      go_wp2_with fail
      refine (bit_any x _ 7 128 _ rfl (by omega) x1 x2 (by decide)).mono ?_
      rintro e vv ⟨rfl, rfl⟩
      by_cases hb : (x / 128 % 2 == 1) = true
      · have hb' : x / 128 % 2 = 1 := by simpa using hb
        have g1 := Lib.hid (HB1.out hb')
        have g2 := Lib.hid (HU1.out hb')
        clear HB1 HB2 HU1 HU2 HU3 hb'
        go_wp2_with fail
        go_round
        case rel => exact ⟨1, 6, by omega, by omega, rfl, by rw [g1.out]; rfl, by rw [g2.out]⟩
        case measure => simp [intOf]
      · have hbf : (x / 128 % 2 == 1) = false := by simpa using hb
        have hb' : ¬ x / 128 % 2 = 1 := by simpa using hb
        clear hb
        have g1 := Lib.hid (HB2.out hb')
        by_cases hlt : 7 < n
        · have g2 := Lib.hid (HU2.out hb' (by omega))
          clear HB1 HB2 HU1 HU2 HU3 hb'
          go_wp2_with fail
          go_round
          case rel => exact ⟨1, 6, by omega, by omega, rfl, by rw [g1.out], by rw [g2.out]⟩
          case measure => simp [intOf]
        · have g2 := Lib.hid (HU3.out hb' (by omega))
          clear HB1 HB2 HU1 HU2 HU3 hb'
          go_wp2_with fail
          go_round
          case rel => exact ⟨1, 6, by omega, by omega, rfl, by rw [g1.out], by rw [g2.out]⟩
          case measure => simp [intOf]
    · obtain rfl : I = 6 := by omega
      clear hI
      have hb1 := fun h => fi_hit x 1 64 (by decide) h
      have hb2 := fun h => fi_miss x 1 64 (by decide) h
      have hu1 := fun h => fu_hit x n 1 64 (by decide) h
      have hu2 := fun h h' => fu_no x n 1 64 (by decide) h h'
      have hu3 := fun h h' => fu_yes x n 1 64 (by decide) h h'
      have HB1 := Lib.hid hb1
      have HB2 := Lib.hid hb2
      have HU1 := Lib.hid hu1
      have HU2 := Lib.hid hu2
      have HU3 := Lib.hid hu3
      clear hb1 hb2 hu1 hu2 hu3
      generalize fiR x 1 = fi at *
      generalize fuR x n 1 = fu at *
      go_wp2_with fail
      refine (bit_any x _ 6 64 _ rfl (by omega) x1 x2 (by decide)).mono ?_
      rintro e vv ⟨rfl, rfl⟩
      by_cases hb : (x / 64 % 2 == 1) = true
      · have hb' : x / 64 % 2 = 1 := by simpa using hb
        have g1 := Lib.hid (HB1.out hb')
        have g2 := Lib.hid (HU1.out hb')
        clear HB1 HB2 HU1 HU2 HU3 hb'
        go_wp2_with fail
        go_round
        case rel => exact ⟨2, 5, by omega, by omega, rfl, by rw [g1.out]; rfl, by rw [g2.out]⟩
        case measure => simp [intOf]
      · have hbf : (x / 64 % 2 == 1) = false := by simpa using hb
        have hb' : ¬ x / 64 % 2 = 1 := by simpa using hb
        clear hb
        have g1 := Lib.hid (HB2.out hb')
        by_cases hlt : 6 < n
        · have g2 := Lib.hid (HU2.out hb' (by omega))
          clear HB1 HB2 HU1 HU2 HU3 hb'
          go_wp2_with fail
          go_round
          case rel => exact ⟨2, 5, by omega, by omega, rfl, by rw [g1.out], by rw [g2.out]⟩
          case measure => simp [intOf]
        · have g2 := Lib.hid (HU3.out hb' (by omega))
          clear HB1 HB2 HU1 HU2 HU3 hb'
          go_wp2_with fail
          go_round
          case rel => exact ⟨2, 5, by omega, by omega, rfl, by rw [g1.out], by rw [g2.out]⟩
          case measure => simp [intOf]
    · obtain rfl : I = 5 := by omega
      clear hI
      have hb1 := fun h => fi_hit x 2 32 (by decide) h
      have hb2 := fun h => fi_miss x 2 32 (by decide) h
      have hu1 := fun h => fu_hit x n 2 32 (by decide) h
      have hu2 := fun h h' => fu_no x n 2 32 (by decide) h h'
      have hu3 := fun h h' => fu_yes x n 2 32 (by decide) h h'
      have HB1 := Lib.hid hb1
      have HB2 := Lib.hid hb2
      have HU1 := Lib.hid hu1
      have HU2 := Lib.hid hu2
      have HU3 := Lib.hid hu3
      clear hb1 hb2 hu1 hu2 hu3
      generalize fiR x 2 = fi at *
      generalize fuR x n 2 = fu at *
      go_wp2_with fail
      refine (bit_any x _ 5 32 _ rfl (by omega) x1 x2 (by decide)).mono ?_
      rintro e vv ⟨rfl, rfl⟩
      by_cases hb : (x / 32 % 2 == 1) = true
      · have hb' : x / 32 % 2 = 1 := by simpa using hb
        have g1 := Lib.hid (HB1.out hb')
        have g2 := Lib.hid (HU1.out hb')
        clear HB1 HB2 HU1 HU2 HU3 hb'
        go_wp2_with fail
        go_round
        case rel => exact ⟨3, 4, by omega, by omega, rfl, by rw [g1.out]; rfl, by rw [g2.out]⟩
        case measure => simp [intOf]
      · have hbf : (x / 32 % 2 == 1) = false := by simpa using hb
        have hb' : ¬ x / 32 % 2 = 1 := by simpa using hb
        clear hb
        have g1 := Lib.hid (HB2.out hb')
        by_cases hlt : 5 < n
        · have g2 := Lib.hid (HU2.out hb' (by omega))
          clear HB1 HB2 HU1 HU2 HU3 hb'
          go_wp2_with fail
          go_round
          case rel => exact ⟨3, 4, by omega, by omega, rfl, by rw [g1.out], by rw [g2.out]⟩
          case measure => simp [intOf]
        · have g2 := Lib.hid (HU3.out hb' (by omega))
          clear HB1 HB2 HU1 HU2 HU3 hb'
          go_wp2_with fail
          go_round
          case rel => exact ⟨3, 4, by omega, by omega, rfl, by rw [g1.out], by rw [g2.out]⟩
          case measure => simp [intOf]
    · obtain rfl : I = 4 := by omega
      clear hI
      have hb1 := fun h => fi_hit x 3 16 (by decide) h
      have hb2 := fun h => fi_miss x 3 16 (by decide) h
      have hu1 := fun h => fu_hit x n 3 16 (by decide) h
      have hu2 := fun h h' => fu_no x n 3 16 (by decide) h h'
      have hu3 := fun h h' => fu_yes x n 3 16 (by decide) h h'
      have HB1 := Lib.hid hb1
      have HB2 := Lib.hid hb2
      have HU1 := Lib.hid hu1
      have HU2 := Lib.hid hu2
      have HU3 := Lib.hid hu3
      clear hb1 hb2 hu1 hu2 hu3
      generalize fiR x 3 = fi at *
      generalize fuR x n 3 = fu at *
      go_wp2_with fail
      refine (bit_any x _ 4 16 _ rfl (by omega) x1 x2 (by decide)).mono ?_
      rintro e vv ⟨rfl, rfl⟩
      by_cases hb : (x / 16 % 2 == 1) = true
      · have hb' : x / 16 % 2 = 1 := by simpa using hb
        have g1 := Lib.hid (HB1.out hb')
        have g2 := Lib.hid (HU1.out hb')
        clear HB1 HB2 HU1 HU2 HU3 hb'
        go_wp2_with fail
        go_round
        case rel => exact ⟨4, 3, by omega, by omega, rfl, by rw [g1.out]; rfl, by rw [g2.out]⟩
        case measure => simp [intOf]
      · have hbf : (x / 16 % 2 == 1) = false := by simpa using hb
        have hb' : ¬ x / 16 % 2 = 1 := by simpa using hb
        clear hb
        have g1 := Lib.hid (HB2.out hb')
        by_cases hlt : 4 < n
        · have g2 := Lib.hid (HU2.out hb' (by omega))
          clear HB1 HB2 HU1 HU2 HU3 hb'
          go_wp2_with fail
          go_round
          case rel => exact ⟨4, 3, by omega, by omega, rfl, by rw [g1.out], by rw [g2.out]⟩
          case measure => simp [intOf]
        · have g2 := Lib.hid (HU3.out hb' (by omega))
          clear HB1 HB2 HU1 HU2 HU3 hb'
          go_wp2_with fail
          go_round
          case rel => exact ⟨4, 3, by omega, by omega, rfl, by rw [g1.out], by rw [g2.out]⟩
          case measure => simp [intOf]
    · obtain rfl : I = 3 := by omega
      clear hI
      have hb1 := fun h => fi_hit x 4 8 (by decide) h
      have hb2 := fun h => fi_miss x 4 8 (by decide) h
      have hu1 := fun h => fu_hit x n 4 8 (by decide) h
      have hu2 := fun h h' => fu_no x n 4 8 (by decide) h h'
      have hu3 := fun h h' => fu_yes x n 4 8 (by decide) h h'
      have HB1 := Lib.hid hb1
      have HB2 := Lib.hid hb2
      have HU1 := Lib.hid hu1
      have HU2 := Lib.hid hu2
      have HU3 := Lib.hid hu3
      clear hb1 hb2 hu1 hu2 hu3
      generalize fiR x 4 = fi at *
      generalize fuR x n 4 = fu at *
      go_wp2_with fail
      refine (bit_any x _ 3 8 _ rfl (by omega) x1 x2 (by decide)).mono ?_
      rintro e vv ⟨rfl, rfl⟩
      by_cases hb : (x / 8 % 2 == 1) = true
      · have hb' : x / 8 % 2 = 1 := by simpa using hb
        have g1 := Lib.hid (HB1.out hb')
        have g2 := Lib.hid (HU1.out hb')
        clear HB1 HB2 HU1 HU2 HU3 hb'
        go_wp2_with fail
        go_round
        case rel => exact ⟨5, 2, by omega, by omega, rfl, by rw [g1.out]; rfl, by rw [g2.out]⟩
        case measure => simp [intOf]
      · have hbf : (x / 8 % 2 == 1) = false := by simpa using hb
        have hb' : ¬ x / 8 % 2 = 1 := by simpa using hb
        clear hb
        have g1 := Lib.hid (HB2.out hb')
        by_cases hlt : 3 < n
        · have g2 := Lib.hid (HU2.out hb' (by omega))
          clear HB1 HB2 HU1 HU2 HU3 hb'
          go_wp2_with fail
          go_round
          case rel => exact ⟨5, 2, by omega, by omega, rfl, by rw [g1.out], by rw [g2.out]⟩
          case measure => simp [intOf]
        · have g2 := Lib.hid (HU3.out hb' (by omega))
          clear HB1 HB2 HU1 HU2 HU3 hb'
          go_wp2_with fail
          go_round
          case rel => exact ⟨5, 2, by omega, by omega, rfl, by rw [g1.out], by rw [g2.out]⟩
          case measure => simp [intOf]
    · obtain rfl : I = 2 := by omega
      clear hI
      have hb1 := fun h => fi_hit x 5 4 (by decide) h
      have hb2 := fun h => fi_miss x 5 4 (by decide) h
      have hu1 := fun h => fu_hit x n 5 4 (by decide) h
      have hu2 := fun h h' => fu_no x n 5 4 (by decide) h h'
      have hu3 := fun h h' => fu_yes x n 5 4 (by decide) h h'
      have HB1 := Lib.hid hb1
      have HB2 := Lib.hid hb2
      have HU1 := Lib.hid hu1
      have HU2 := Lib.hid hu2
      have HU3 := Lib.hid hu3
      clear hb1 hb2 hu1 hu2 hu3
      generalize fiR x 5 = fi at *
      generalize fuR x n 5 = fu at *
      go_wp2_with fail
      refine (bit_any x _ 2 4 _ rfl (by omega) x1 x2 (by decide)).mono ?_
      rintro e vv ⟨rfl, rfl⟩
      by_cases hb : (x / 4 % 2 == 1) = true
      · have hb' : x / 4 % 2 = 1 := by simpa using hb
        have g1 := Lib.hid (HB1.out hb')
        have g2 := Lib.hid (HU1.out hb')
        clear HB1 HB2 HU1 HU2 HU3 hb'
        go_wp2_with fail
        go_round
        case rel => exact ⟨6, 1, by omega, by omega, rfl, by rw [g1.out]; rfl, by rw [g2.out]⟩
        case measure => simp [intOf]
      · have hbf : (x / 4 % 2 == 1) = false := by simpa using hb
        have hb' : ¬ x / 4 % 2 = 1 := by simpa using hb
        clear hb
        have g1 := Lib.hid (HB2.out hb')
        by_cases hlt : 2 < n
        · have g2 := Lib.hid (HU2.out hb' (by omega))
          clear HB1 HB2 HU1 HU2 HU3 hb'
          go_wp2_with fail
          go_round
          case rel => exact ⟨6, 1, by omega, by omega, rfl, by rw [g1.out], by rw [g2.out]⟩
          case measure => simp [intOf]
        · have g2 := Lib.hid (HU3.out hb' (by omega))
          clear HB1 HB2 HU1 HU2 HU3 hb'
          go_wp2_with fail
          go_round
          case rel => exact ⟨6, 1, by omega, by omega, rfl, by rw [g1.out], by rw [g2.out]⟩
          case measure => simp [intOf]
    · obtain rfl : I = 1 := by omega
      clear hI
      have hb1 := fun h => fi_hit x 6 2 (by decide) h
      have hb2 := fun h => fi_miss x 6 2 (by decide) h
      have hu1 := fun h => fu_hit x n 6 2 (by decide) h
      have hu2 := fun h h' => fu_no x n 6 2 (by decide) h h'
      have hu3 := fun h h' => fu_yes x n 6 2 (by decide) h h'
      have HB1 := Lib.hid hb1
      have HB2 := Lib.hid hb2
      have HU1 := Lib.hid hu1
      have HU2 := Lib.hid hu2
      have HU3 := Lib.hid hu3
      clear hb1 hb2 hu1 hu2 hu3
      generalize fiR x 6 = fi at *
      generalize fuR x n 6 = fu at *
      go_wp2_with fail
      refine (bit_any x _ 1 2 _ rfl (by omega) x1 x2 (by decide)).mono ?_
      rintro e vv ⟨rfl, rfl⟩
      by_cases hb : (x / 2 % 2 == 1) = true
      · have hb' : x / 2 % 2 = 1 := by simpa using hb
        have g1 := Lib.hid (HB1.out hb')
        have g2 := Lib.hid (HU1.out hb')
        clear HB1 HB2 HU1 HU2 HU3 hb'
        go_wp2_with fail
        go_round
        case rel => exact ⟨7, 0, by omega, by omega, rfl, by rw [g1.out]; rfl, by rw [g2.out]⟩
        case measure => simp [intOf]
      · have hbf : (x / 2 % 2 == 1) = false := by simpa using hb
        have hb' : ¬ x / 2 % 2 = 1 := by simpa using hb
        clear hb
        have g1 := Lib.hid (HB2.out hb')
        by_cases hlt : 1 < n
        · have g2 := Lib.hid (HU2.out hb' (by omega))
          clear HB1 HB2 HU1 HU2 HU3 hb'
          go_wp2_with fail
          go_round
          case rel => exact ⟨7, 0, by omega, by omega, rfl, by rw [g1.out], by rw [g2.out]⟩
          case measure => simp [intOf]
        · have g2 := Lib.hid (HU3.out hb' (by omega))
          clear HB1 HB2 HU1 HU2 HU3 hb'
          go_wp2_with fail
          go_round
          case rel => exact ⟨7, 0, by omega, by omega, rfl, by rw [g1.out], by rw [g2.out]⟩
          case measure => simp [intOf]
    · obtain rfl : I = 0 := by omega
      clear hI
      have hb1 := fun h => fi_hit x 7 1 (by decide) h
      have hb2 := fun h => fi_miss x 7 1 (by decide) h
      have hu1 := fun h => fu_hit x n 7 1 (by decide) h
      have hu2 := fun h h' => fu_no x n 7 1 (by decide) h h'
      have hu3 := fun h h' => fu_yes x n 7 1 (by decide) h h'
      have HB1 := Lib.hid hb1
      have HB2 := Lib.hid hb2
      have HU1 := Lib.hid hu1
      have HU2 := Lib.hid hu2
      have HU3 := Lib.hid hu3
      clear hb1 hb2 hu1 hu2 hu3
      generalize fiR x 7 = fi at *
      generalize fuR x n 7 = fu at *
      go_wp2_with fail
      refine (bit_any x _ 0 1 _ rfl (by omega) x1 x2 (by decide)).mono ?_
      rintro e vv ⟨rfl, rfl⟩
      by_cases hb : (x / 1 % 2 == 1) = true
      · have hb' : x / 1 % 2 = 1 := by simpa using hb
        have g1 := Lib.hid (HB1.out hb')
        have g2 := Lib.hid (HU1.out hb')
        clear HB1 HB2 HU1 HU2 HU3 hb'
        go_wp2_with fail
        go_round
        case rel => exact ⟨8, -1, by omega, by omega, rfl, by rw [g1.out]; rfl, by rw [g2.out]⟩
        case measure => simp [intOf]
      · have hbf : (x / 1 % 2 == 1) = false := by simpa using hb
        have hb' : ¬ x / 1 % 2 = 1 := by simpa using hb
        clear hb
        have g1 := Lib.hid (HB2.out hb')
        by_cases hlt : 0 < n
        · have g2 := Lib.hid (HU2.out hb' (by omega))
          clear HB1 HB2 HU1 HU2 HU3 hb'
          go_wp2_with fail
          go_round
          case rel => exact ⟨8, -1, by omega, by omega, rfl, by rw [g1.out], by rw [g2.out]⟩
          case measure => simp [intOf]
        · have g2 := Lib.hid (HU3.out hb' (by omega))
          clear HB1 HB2 HU1 HU2 HU3 hb'
          go_wp2_with fail
          go_round
          case rel => exact ⟨8, -1, by omega, by omega, rfl, by rw [g1.out], by rw [g2.out]⟩
          case measure => simp [intOf]
    · obtain rfl : I = -1 := by omega
      clear hI
      rw [f1.out, f2.out]
      have q0 := A4.cell 0 rfl
      have q1 := A4.cell 1 rfl
      have q2 := A4.cell 2 rfl
      have q3 := A4.cell 3 rfl
      go_wp2_with fail
      refine (first_any _ _ _ _ _ (by omega) (by omega)).mono ?_
      rintro e v7 ⟨rfl, d7⟩
      have A5 := A4.below d7
      clear q0 q1 q2 q3
      have q0 := A5.cell 0 rfl
      have q1 := A5.cell 1 rfl
      have q2 := A5.cell 2 rfl
      have q3 := A5.cell 3 rfl
      go_wp2_with fail
      refine (full_any _ _ _ _ _ _ (by omega) (by omega)).mono ?_
      rintro e v8 ⟨rfl, d8⟩
      clear q0 q1 q2 q3
      go_wp2_with fail
      refine (awake_any _).mono ?_
      rintro e v9 ⟨rfl, d9⟩
      go_wp2_with fail
      go_ret
      exact ⟨rfl, bnext (bnext (bnext hC4 d7) d8) d9⟩

set_option maxRecDepth 100000 in
set_option maxHeartbeats 16000000 in
theorem reads_f (x n : Int) (w : World) (x1 : 0 ≤ x) (x2 : x ≤ 18446744073709551615) (n1 : -9223372036854775808 ≤ n) (n2 : n ≤ 9223372036854775807) (hc : ¬ 0 < x / 256 % 8) :
    Calls Try.prog 8 #[.int .u64 x, .int .i64 n] w fun e w' => e = .returned (.bool true) ∧ Below w.heap.size w w' := by
  have E0 := Lib.hid (show refA x = #[.int .i64 (x % 16777216), .bool ((x / 16777216 % 2 == 1)), .int .u32 ((x / 4294967296))] from rfl)
  have E1 := Lib.hid (show staA x = #[.int .i64 (x % 4), .int .i64 (x / 4 % 65536), .int .i64 (x / 262144 % 4096), .int .u32 (x / 4294967296)] from rfl)
  have E2 := Lib.hid (show pagA x = #[.int .i64 (x % 8), .int .i64 (x / 8 % 1024), .int .i64 (x / 8192 % 4), .int .i64 (x / 65536 % 128)] from rfl)
  have E3 : Hid (bitA x = #[.int .u8 (x % 256), .bool (false), .int .i64 (0), .int .u32 (x / 4294967296)]) := by
    show bitA x = _
    unfold bitA
    rw [if_neg hc, decide_eq_false hc]
  have f1 := Lib.hid (first_eq x)
  have f2 := Lib.hid (full_eq x n)
  have hc0 : x / 256 % 8 = 0 := by omega
  go_enter Try.func8, Try.ntmps8
  go_wp2_with fail
  refine (refOf x _ x1 x2).mono ?_
  rintro e w1 ⟨rfl, b1_⟩
  rw [E0.out]
  have hB1 := b1_
  clear b1_
  have hB1a := hB1.alloc hB1.size (.cells #[.int .i64 (x % 16777216), .bool ((x / 16777216 % 2 == 1)), .int .u32 ((x / 4294967296))] 24)
  have A1 := At.last w1 #[.int .i64 (x % 16777216), .bool ((x / 16777216 % 2 == 1)), .int .u32 ((x / 4294967296))] 24
  go_wp2_with fail
  refine (staOf x _ x1 x2).mono ?_
  rintro e w2 ⟨rfl, b2_⟩
  rw [E1.out]
  have hB2 := bnext hB1a b2_
  have A1 := A1.below b2_
  clear b2_
  have hB2a := hB2.alloc hB2.size (.cells #[.int .i64 (x % 4), .int .i64 (x / 4 % 65536), .int .i64 (x / 262144 % 4096), .int .u32 (x / 4294967296)] 26)
  have A1 := A1.alloc (.cells #[.int .i64 (x % 4), .int .i64 (x / 4 % 65536), .int .i64 (x / 262144 % 4096), .int .u32 (x / 4294967296)] 26)
  have A2 := At.last w2 #[.int .i64 (x % 4), .int .i64 (x / 4 % 65536), .int .i64 (x / 262144 % 4096), .int .u32 (x / 4294967296)] 26
  go_wp2_with fail
  refine (pagOf x _ x1 x2).mono ?_
  rintro e w3 ⟨rfl, b3_⟩
  rw [E2.out]
  have hB3 := bnext hB2a b3_
  have A1 := A1.below b3_
  have A2 := A2.below b3_
  clear b3_
  have hB3a := hB3.alloc hB3.size (.cells #[.int .i64 (x % 8), .int .i64 (x / 8 % 1024), .int .i64 (x / 8192 % 4), .int .i64 (x / 65536 % 128)] 28)
  have A1 := A1.alloc (.cells #[.int .i64 (x % 8), .int .i64 (x / 8 % 1024), .int .i64 (x / 8192 % 4), .int .i64 (x / 65536 % 128)] 28)
  have A2 := A2.alloc (.cells #[.int .i64 (x % 8), .int .i64 (x / 8 % 1024), .int .i64 (x / 8192 % 4), .int .i64 (x / 65536 % 128)] 28)
  have A3 := At.last w3 #[.int .i64 (x % 8), .int .i64 (x / 8 % 1024), .int .i64 (x / 8192 % 4), .int .i64 (x / 65536 % 128)] 28
  go_wp2_with fail
  refine (bitOf x _ x1 x2).mono ?_
  rintro e w4 ⟨rfl, b4_⟩
  rw [E3.out]
  have hB4 := bnext hB3a b4_
  have A1 := A1.below b4_
  have A2 := A2.below b4_
  have A3 := A3.below b4_
  clear b4_
  have hB4a := hB4.alloc hB4.size (.cells #[.int .u8 (x % 256), .bool (false), .int .i64 (0), .int .u32 (x / 4294967296)] 30)
  have A1 := A1.alloc (.cells #[.int .u8 (x % 256), .bool (false), .int .i64 (0), .int .u32 (x / 4294967296)] 30)
  have A2 := A2.alloc (.cells #[.int .u8 (x % 256), .bool (false), .int .i64 (0), .int .u32 (x / 4294967296)] 30)
  have A3 := A3.alloc (.cells #[.int .u8 (x % 256), .bool (false), .int .i64 (0), .int .u32 (x / 4294967296)] 30)
  have A4 := At.last w4 #[.int .u8 (x % 256), .bool (false), .int .i64 (0), .int .u32 (x / 4294967296)] 30
  go_wp2_with fail
  generalize hW : World.alloc w4 _ = W at *
  clear hW hB1 hB1a hB2 hB2a hB3 hB3a hB4
  have q0 := bel_cell (A1.cell 0 rfl)
  have q1 := bel_cell (A1.cell 1 rfl)
  have q2 := bel_cell (A1.cell 2 rfl)
  refine region_below (by kernel_rfl) (by kernel_rfl) ?_
  repeat (go_big_quiet_step (first | (go_at_call_of 25 (Value.int IntKind.i64 24); exact below_same (field_0 x 24 _ 16777216 _ rfl (by omega) x1 x2 (by decide))) | (go_at_call 26; exact below_same (bit_any x _ 24 16777216 _ rfl (by omega) x1 x2 (by decide))) | (go_at_call 27; exact below_same (rVer _ _ x1 x2))))
  refine wpQuiet_nil ?_
  intro v1 hv1
  obtain ⟨s1, rfl⟩ := hv1
  have d1 := s1.2
  have A2 := A2.below d1
  have A3 := A3.below d1
  have A4 := A4.below d1
  have hC1 := bnext hB4a d1
  clear d1 q0 q1 q2
  generalize s1.1 = V1 at *
  go_wp2_with fail
  have q0 := bel_cell (A2.cell 0 rfl)
  have q1 := bel_cell (A2.cell 1 rfl)
  have q2 := bel_cell (A2.cell 2 rfl)
  have q3 := bel_cell (A2.cell 3 rfl)
  refine region_below (by kernel_rfl) (by kernel_rfl) ?_
  repeat (go_big_quiet_step (first | (go_at_call_of 25 (Value.int IntKind.i64 16); exact below_same (field_c x 2 16 _ _ 4 65536 _ rfl rfl (by omega) (by omega) x1 x2 (by decide) (by decide))) | (go_at_call_of 25 (Value.int IntKind.i64 12); exact below_same (field_c x 18 12 _ _ 262144 4096 _ rfl rfl (by omega) (by omega) x1 x2 (by decide) (by decide))) | (go_at_call_of 25 (Value.int IntKind.i64 2); exact below_same (field_0 x 2 _ 4 _ rfl (by omega) x1 x2 (by decide))) | (go_at_call 27; exact below_same (rVer _ _ x1 x2))))
  refine wpQuiet_nil ?_
  intro v2 hv2
  obtain ⟨s2, rfl⟩ := hv2
  have d2 := s2.2
  have A3 := A3.below d2
  have A4 := A4.below d2
  have hC2 := bnext hC1 d2
  clear d2 q0 q1 q2 q3
  generalize s2.1 = V2 at *
  go_wp2_with fail
  have q0 := bel_cell (A3.cell 0 rfl)
  have q1 := bel_cell (A3.cell 1 rfl)
  have q2 := bel_cell (A3.cell 2 rfl)
  have q3 := bel_cell (A3.cell 3 rfl)
  refine region_below (by kernel_rfl) (by kernel_rfl) ?_
  repeat (go_big_quiet_step (first | (go_at_call_of 25 (Value.int IntKind.i64 10); exact below_same (field_c x 3 10 _ _ 8 1024 _ rfl rfl (by omega) (by omega) x1 x2 (by decide) (by decide))) | (go_at_call_of 25 (Value.int IntKind.i64 13); exact below_same (field_c x 13 2 _ _ 8192 4 _ rfl rfl (by omega) (by omega) x1 x2 (by decide) (by decide))) | (go_at_call_of 25 (Value.int IntKind.i64 7); exact below_same (field_c x 16 7 _ _ 65536 128 _ rfl rfl (by omega) (by omega) x1 x2 (by decide) (by decide))) | (go_at_call_of 25 (Value.int IntKind.i64 3); exact below_same (field_0 x 3 _ 8 _ rfl (by omega) x1 x2 (by decide)))))
  refine wpQuiet_nil ?_
  intro v3 hv3
  obtain ⟨s3, rfl⟩ := hv3
  have d3 := s3.2
  have A4 := A4.below d3
  have hC3 := bnext hC2 d3
  clear d3 q0 q1 q2 q3
  generalize s3.1 = V3 at *
  go_wp2_with fail
  refine (field_c x 8 3 _ _ 256 8 _ rfl rfl (by omega) (by omega) x1 x2 (by decide) (by decide)).mono ?_
  rintro e v ⟨rfl, rfl⟩
  go_wp2_with fail
  have q0 := bel_cell (A4.cell 0 rfl)
  have q1 := bel_cell (A4.cell 1 rfl)
  have q2 := bel_cell (A4.cell 2 rfl)
  have q3 := bel_cell (A4.cell 3 rfl)
  refine region_below (by kernel_rfl) (by kernel_rfl) ?_
  repeat (go_big_quiet_step (first | (go_at_call_of 25 (Value.int IntKind.i64 8); exact below_same (field_0 x 8 _ 256 _ rfl (by omega) x1 x2 (by decide))) | (go_at_call 27; exact below_same (rVer _ _ x1 x2))))
  refine wpQuiet_nil ?_
  intro v4 hv4
  obtain ⟨s4, rfl⟩ := hv4
  have d4 := s4.2
  have A4 := A4.below d4
  have hC4 := bnext hC3 d4
  clear d4 q0 q1 q2 q3
  generalize s4.1 = V4 at *
  go_wp2_with fail
  go_loop [10, 11, 12] (fun fi fu i => ∃ (r : Nat) (I : Int), r ≤ 8 ∧ I = 7 - (r : Int) ∧ i = .int .i64 I ∧ fi = .int .i64 (fiR x r) ∧ fu = .bool (fuR x n r)) (fun _ _ i => (intOf i + 1).toNat)
  case atStart => exact ⟨0, 7, by omega, by omega, rfl, rfl, rfl⟩
  case round =>
    obtain ⟨r, I, hr, hI, rfl, rfl, rfl⟩ := hrel
    rcases (show r = 0 ∨ r = 1 ∨ r = 2 ∨ r = 3 ∨ r = 4 ∨ r = 5 ∨ r = 6 ∨ r = 7 ∨ r = 8 by omega) with rfl | rfl | rfl | rfl | rfl | rfl | rfl | rfl | rfl
    · obtain rfl : I = 7 := by omega
      clear hI
      have hb1 := fun h => fi_hit x 0 128 (by decide) h
      have hb2 := fun h => fi_miss x 0 128 (by decide) h
      have hu1 := fun h => fu_hit x n 0 128 (by decide) h
      have hu2 := fun h h' => fu_no x n 0 128 (by decide) h h'
      have hu3 := fun h h' => fu_yes x n 0 128 (by decide) h h'
      have HB1 := Lib.hid hb1
      have HB2 := Lib.hid hb2
      have HU1 := Lib.hid hu1
      have HU2 := Lib.hid hu2
      have HU3 := Lib.hid hu3
      clear hb1 hb2 hu1 hu2 hu3
      generalize fiR x 0 = fi at *
      generalize fuR x n 0 = fu at *
      go_wp2_with fail
      refine (bit_any x _ 7 128 _ rfl (by omega) x1 x2 (by decide)).mono ?_
      rintro e vv ⟨rfl, rfl⟩
      by_cases hb : (x / 128 % 2 == 1) = true
      · have hb' : x / 128 % 2 = 1 := by simpa using hb
        have g1 := Lib.hid (HB1.out hb')
        have g2 := Lib.hid (HU1.out hb')
        clear HB1 HB2 HU1 HU2 HU3 hb'
        go_wp2_with fail
        go_round
        case rel => exact ⟨1, 6, by omega, by omega, rfl, by rw [g1.out]; rfl, by rw [g2.out]⟩
        case measure => simp [intOf]
      · have hbf : (x / 128 % 2 == 1) = false := by simpa using hb
        have hb' : ¬ x / 128 % 2 = 1 := by simpa using hb
        clear hb
        have g1 := Lib.hid (HB2.out hb')
        by_cases hlt : 7 < n
        · have g2 := Lib.hid (HU2.out hb' (by omega))
          clear HB1 HB2 HU1 HU2 HU3 hb'
          go_wp2_with fail
          go_round
          case rel => exact ⟨1, 6, by omega, by omega, rfl, by rw [g1.out], by rw [g2.out]⟩
          case measure => simp [intOf]
        · have g2 := Lib.hid (HU3.out hb' (by omega))
          clear HB1 HB2 HU1 HU2 HU3 hb'
          go_wp2_with fail
          go_round
          case rel => exact ⟨1, 6, by omega, by omega, rfl, by rw [g1.out], by rw [g2.out]⟩
          case measure => simp [intOf]
    · obtain rfl : I = 6 := by omega
      clear hI
      have hb1 := fun h => fi_hit x 1 64 (by decide) h
      have hb2 := fun h => fi_miss x 1 64 (by decide) h
      have hu1 := fun h => fu_hit x n 1 64 (by decide) h
      have hu2 := fun h h' => fu_no x n 1 64 (by decide) h h'
      have hu3 := fun h h' => fu_yes x n 1 64 (by decide) h h'
      have HB1 := Lib.hid hb1
      have HB2 := Lib.hid hb2
      have HU1 := Lib.hid hu1
      have HU2 := Lib.hid hu2
      have HU3 := Lib.hid hu3
      clear hb1 hb2 hu1 hu2 hu3
      generalize fiR x 1 = fi at *
      generalize fuR x n 1 = fu at *
      go_wp2_with fail
      refine (bit_any x _ 6 64 _ rfl (by omega) x1 x2 (by decide)).mono ?_
      rintro e vv ⟨rfl, rfl⟩
      by_cases hb : (x / 64 % 2 == 1) = true
      · have hb' : x / 64 % 2 = 1 := by simpa using hb
        have g1 := Lib.hid (HB1.out hb')
        have g2 := Lib.hid (HU1.out hb')
        clear HB1 HB2 HU1 HU2 HU3 hb'
        go_wp2_with fail
        go_round
        case rel => exact ⟨2, 5, by omega, by omega, rfl, by rw [g1.out]; rfl, by rw [g2.out]⟩
        case measure => simp [intOf]
      · have hbf : (x / 64 % 2 == 1) = false := by simpa using hb
        have hb' : ¬ x / 64 % 2 = 1 := by simpa using hb
        clear hb
        have g1 := Lib.hid (HB2.out hb')
        by_cases hlt : 6 < n
        · have g2 := Lib.hid (HU2.out hb' (by omega))
          clear HB1 HB2 HU1 HU2 HU3 hb'
          go_wp2_with fail
          go_round
          case rel => exact ⟨2, 5, by omega, by omega, rfl, by rw [g1.out], by rw [g2.out]⟩
          case measure => simp [intOf]
        · have g2 := Lib.hid (HU3.out hb' (by omega))
          clear HB1 HB2 HU1 HU2 HU3 hb'
          go_wp2_with fail
          go_round
          case rel => exact ⟨2, 5, by omega, by omega, rfl, by rw [g1.out], by rw [g2.out]⟩
          case measure => simp [intOf]
    · obtain rfl : I = 5 := by omega
      clear hI
      have hb1 := fun h => fi_hit x 2 32 (by decide) h
      have hb2 := fun h => fi_miss x 2 32 (by decide) h
      have hu1 := fun h => fu_hit x n 2 32 (by decide) h
      have hu2 := fun h h' => fu_no x n 2 32 (by decide) h h'
      have hu3 := fun h h' => fu_yes x n 2 32 (by decide) h h'
      have HB1 := Lib.hid hb1
      have HB2 := Lib.hid hb2
      have HU1 := Lib.hid hu1
      have HU2 := Lib.hid hu2
      have HU3 := Lib.hid hu3
      clear hb1 hb2 hu1 hu2 hu3
      generalize fiR x 2 = fi at *
      generalize fuR x n 2 = fu at *
      go_wp2_with fail
      refine (bit_any x _ 5 32 _ rfl (by omega) x1 x2 (by decide)).mono ?_
      rintro e vv ⟨rfl, rfl⟩
      by_cases hb : (x / 32 % 2 == 1) = true
      · have hb' : x / 32 % 2 = 1 := by simpa using hb
        have g1 := Lib.hid (HB1.out hb')
        have g2 := Lib.hid (HU1.out hb')
        clear HB1 HB2 HU1 HU2 HU3 hb'
        go_wp2_with fail
        go_round
        case rel => exact ⟨3, 4, by omega, by omega, rfl, by rw [g1.out]; rfl, by rw [g2.out]⟩
        case measure => simp [intOf]
      · have hbf : (x / 32 % 2 == 1) = false := by simpa using hb
        have hb' : ¬ x / 32 % 2 = 1 := by simpa using hb
        clear hb
        have g1 := Lib.hid (HB2.out hb')
        by_cases hlt : 5 < n
        · have g2 := Lib.hid (HU2.out hb' (by omega))
          clear HB1 HB2 HU1 HU2 HU3 hb'
          go_wp2_with fail
          go_round
          case rel => exact ⟨3, 4, by omega, by omega, rfl, by rw [g1.out], by rw [g2.out]⟩
          case measure => simp [intOf]
        · have g2 := Lib.hid (HU3.out hb' (by omega))
          clear HB1 HB2 HU1 HU2 HU3 hb'
          go_wp2_with fail
          go_round
          case rel => exact ⟨3, 4, by omega, by omega, rfl, by rw [g1.out], by rw [g2.out]⟩
          case measure => simp [intOf]
    · obtain rfl : I = 4 := by omega
      clear hI
      have hb1 := fun h => fi_hit x 3 16 (by decide) h
      have hb2 := fun h => fi_miss x 3 16 (by decide) h
      have hu1 := fun h => fu_hit x n 3 16 (by decide) h
      have hu2 := fun h h' => fu_no x n 3 16 (by decide) h h'
      have hu3 := fun h h' => fu_yes x n 3 16 (by decide) h h'
      have HB1 := Lib.hid hb1
      have HB2 := Lib.hid hb2
      have HU1 := Lib.hid hu1
      have HU2 := Lib.hid hu2
      have HU3 := Lib.hid hu3
      clear hb1 hb2 hu1 hu2 hu3
      generalize fiR x 3 = fi at *
      generalize fuR x n 3 = fu at *
      go_wp2_with fail
      refine (bit_any x _ 4 16 _ rfl (by omega) x1 x2 (by decide)).mono ?_
      rintro e vv ⟨rfl, rfl⟩
      by_cases hb : (x / 16 % 2 == 1) = true
      · have hb' : x / 16 % 2 = 1 := by simpa using hb
        have g1 := Lib.hid (HB1.out hb')
        have g2 := Lib.hid (HU1.out hb')
        clear HB1 HB2 HU1 HU2 HU3 hb'
        go_wp2_with fail
        go_round
        case rel => exact ⟨4, 3, by omega, by omega, rfl, by rw [g1.out]; rfl, by rw [g2.out]⟩
        case measure => simp [intOf]
      · have hbf : (x / 16 % 2 == 1) = false := by simpa using hb
        have hb' : ¬ x / 16 % 2 = 1 := by simpa using hb
        clear hb
        have g1 := Lib.hid (HB2.out hb')
        by_cases hlt : 4 < n
        · have g2 := Lib.hid (HU2.out hb' (by omega))
          clear HB1 HB2 HU1 HU2 HU3 hb'
          go_wp2_with fail
          go_round
          case rel => exact ⟨4, 3, by omega, by omega, rfl, by rw [g1.out], by rw [g2.out]⟩
          case measure => simp [intOf]
        · have g2 := Lib.hid (HU3.out hb' (by omega))
          clear HB1 HB2 HU1 HU2 HU3 hb'
          go_wp2_with fail
          go_round
          case rel => exact ⟨4, 3, by omega, by omega, rfl, by rw [g1.out], by rw [g2.out]⟩
          case measure => simp [intOf]
    · obtain rfl : I = 3 := by omega
      clear hI
      have hb1 := fun h => fi_hit x 4 8 (by decide) h
      have hb2 := fun h => fi_miss x 4 8 (by decide) h
      have hu1 := fun h => fu_hit x n 4 8 (by decide) h
      have hu2 := fun h h' => fu_no x n 4 8 (by decide) h h'
      have hu3 := fun h h' => fu_yes x n 4 8 (by decide) h h'
      have HB1 := Lib.hid hb1
      have HB2 := Lib.hid hb2
      have HU1 := Lib.hid hu1
      have HU2 := Lib.hid hu2
      have HU3 := Lib.hid hu3
      clear hb1 hb2 hu1 hu2 hu3
      generalize fiR x 4 = fi at *
      generalize fuR x n 4 = fu at *
      go_wp2_with fail
      refine (bit_any x _ 3 8 _ rfl (by omega) x1 x2 (by decide)).mono ?_
      rintro e vv ⟨rfl, rfl⟩
      by_cases hb : (x / 8 % 2 == 1) = true
      · have hb' : x / 8 % 2 = 1 := by simpa using hb
        have g1 := Lib.hid (HB1.out hb')
        have g2 := Lib.hid (HU1.out hb')
        clear HB1 HB2 HU1 HU2 HU3 hb'
        go_wp2_with fail
        go_round
        case rel => exact ⟨5, 2, by omega, by omega, rfl, by rw [g1.out]; rfl, by rw [g2.out]⟩
        case measure => simp [intOf]
      · have hbf : (x / 8 % 2 == 1) = false := by simpa using hb
        have hb' : ¬ x / 8 % 2 = 1 := by simpa using hb
        clear hb
        have g1 := Lib.hid (HB2.out hb')
        by_cases hlt : 3 < n
        · have g2 := Lib.hid (HU2.out hb' (by omega))
          clear HB1 HB2 HU1 HU2 HU3 hb'
          go_wp2_with fail
          go_round
          case rel => exact ⟨5, 2, by omega, by omega, rfl, by rw [g1.out], by rw [g2.out]⟩
          case measure => simp [intOf]
        · have g2 := Lib.hid (HU3.out hb' (by omega))
          clear HB1 HB2 HU1 HU2 HU3 hb'
          go_wp2_with fail
          go_round
          case rel => exact ⟨5, 2, by omega, by omega, rfl, by rw [g1.out], by rw [g2.out]⟩
          case measure => simp [intOf]
    · obtain rfl : I = 2 := by omega
      clear hI
      have hb1 := fun h => fi_hit x 5 4 (by decide) h
      have hb2 := fun h => fi_miss x 5 4 (by decide) h
      have hu1 := fun h => fu_hit x n 5 4 (by decide) h
      have hu2 := fun h h' => fu_no x n 5 4 (by decide) h h'
      have hu3 := fun h h' => fu_yes x n 5 4 (by decide) h h'
      have HB1 := Lib.hid hb1
      have HB2 := Lib.hid hb2
      have HU1 := Lib.hid hu1
      have HU2 := Lib.hid hu2
      have HU3 := Lib.hid hu3
      clear hb1 hb2 hu1 hu2 hu3
      generalize fiR x 5 = fi at *
      generalize fuR x n 5 = fu at *
      go_wp2_with fail
      refine (bit_any x _ 2 4 _ rfl (by omega) x1 x2 (by decide)).mono ?_
      rintro e vv ⟨rfl, rfl⟩
      by_cases hb : (x / 4 % 2 == 1) = true
      · have hb' : x / 4 % 2 = 1 := by simpa using hb
        have g1 := Lib.hid (HB1.out hb')
        have g2 := Lib.hid (HU1.out hb')
        clear HB1 HB2 HU1 HU2 HU3 hb'
        go_wp2_with fail
        go_round
        case rel => exact ⟨6, 1, by omega, by omega, rfl, by rw [g1.out]; rfl, by rw [g2.out]⟩
        case measure => simp [intOf]
      · have hbf : (x / 4 % 2 == 1) = false := by simpa using hb
        have hb' : ¬ x / 4 % 2 = 1 := by simpa using hb
        clear hb
        have g1 := Lib.hid (HB2.out hb')
        by_cases hlt : 2 < n
        · have g2 := Lib.hid (HU2.out hb' (by omega))
          clear HB1 HB2 HU1 HU2 HU3 hb'
          go_wp2_with fail
          go_round
          case rel => exact ⟨6, 1, by omega, by omega, rfl, by rw [g1.out], by rw [g2.out]⟩
          case measure => simp [intOf]
        · have g2 := Lib.hid (HU3.out hb' (by omega))
          clear HB1 HB2 HU1 HU2 HU3 hb'
          go_wp2_with fail
          go_round
          case rel => exact ⟨6, 1, by omega, by omega, rfl, by rw [g1.out], by rw [g2.out]⟩
          case measure => simp [intOf]
    · obtain rfl : I = 1 := by omega
      clear hI
      have hb1 := fun h => fi_hit x 6 2 (by decide) h
      have hb2 := fun h => fi_miss x 6 2 (by decide) h
      have hu1 := fun h => fu_hit x n 6 2 (by decide) h
      have hu2 := fun h h' => fu_no x n 6 2 (by decide) h h'
      have hu3 := fun h h' => fu_yes x n 6 2 (by decide) h h'
      have HB1 := Lib.hid hb1
      have HB2 := Lib.hid hb2
      have HU1 := Lib.hid hu1
      have HU2 := Lib.hid hu2
      have HU3 := Lib.hid hu3
      clear hb1 hb2 hu1 hu2 hu3
      generalize fiR x 6 = fi at *
      generalize fuR x n 6 = fu at *
      go_wp2_with fail
      refine (bit_any x _ 1 2 _ rfl (by omega) x1 x2 (by decide)).mono ?_
      rintro e vv ⟨rfl, rfl⟩
      by_cases hb : (x / 2 % 2 == 1) = true
      · have hb' : x / 2 % 2 = 1 := by simpa using hb
        have g1 := Lib.hid (HB1.out hb')
        have g2 := Lib.hid (HU1.out hb')
        clear HB1 HB2 HU1 HU2 HU3 hb'
        go_wp2_with fail
        go_round
        case rel => exact ⟨7, 0, by omega, by omega, rfl, by rw [g1.out]; rfl, by rw [g2.out]⟩
        case measure => simp [intOf]
      · have hbf : (x / 2 % 2 == 1) = false := by simpa using hb
        have hb' : ¬ x / 2 % 2 = 1 := by simpa using hb
        clear hb
        have g1 := Lib.hid (HB2.out hb')
        by_cases hlt : 1 < n
        · have g2 := Lib.hid (HU2.out hb' (by omega))
          clear HB1 HB2 HU1 HU2 HU3 hb'
          go_wp2_with fail
          go_round
          case rel => exact ⟨7, 0, by omega, by omega, rfl, by rw [g1.out], by rw [g2.out]⟩
          case measure => simp [intOf]
        · have g2 := Lib.hid (HU3.out hb' (by omega))
          clear HB1 HB2 HU1 HU2 HU3 hb'
          go_wp2_with fail
          go_round
          case rel => exact ⟨7, 0, by omega, by omega, rfl, by rw [g1.out], by rw [g2.out]⟩
          case measure => simp [intOf]
    · obtain rfl : I = 0 := by omega
      clear hI
      have hb1 := fun h => fi_hit x 7 1 (by decide) h
      have hb2 := fun h => fi_miss x 7 1 (by decide) h
      have hu1 := fun h => fu_hit x n 7 1 (by decide) h
      have hu2 := fun h h' => fu_no x n 7 1 (by decide) h h'
      have hu3 := fun h h' => fu_yes x n 7 1 (by decide) h h'
      have HB1 := Lib.hid hb1
      have HB2 := Lib.hid hb2
      have HU1 := Lib.hid hu1
      have HU2 := Lib.hid hu2
      have HU3 := Lib.hid hu3
      clear hb1 hb2 hu1 hu2 hu3
      generalize fiR x 7 = fi at *
      generalize fuR x n 7 = fu at *
      go_wp2_with fail
      refine (bit_any x _ 0 1 _ rfl (by omega) x1 x2 (by decide)).mono ?_
      rintro e vv ⟨rfl, rfl⟩
      by_cases hb : (x / 1 % 2 == 1) = true
      · have hb' : x / 1 % 2 = 1 := by simpa using hb
        have g1 := Lib.hid (HB1.out hb')
        have g2 := Lib.hid (HU1.out hb')
        clear HB1 HB2 HU1 HU2 HU3 hb'
        go_wp2_with fail
        go_round
        case rel => exact ⟨8, -1, by omega, by omega, rfl, by rw [g1.out]; rfl, by rw [g2.out]⟩
        case measure => simp [intOf]
      · have hbf : (x / 1 % 2 == 1) = false := by simpa using hb
        have hb' : ¬ x / 1 % 2 = 1 := by simpa using hb
        clear hb
        have g1 := Lib.hid (HB2.out hb')
        by_cases hlt : 0 < n
        · have g2 := Lib.hid (HU2.out hb' (by omega))
          clear HB1 HB2 HU1 HU2 HU3 hb'
          go_wp2_with fail
          go_round
          case rel => exact ⟨8, -1, by omega, by omega, rfl, by rw [g1.out], by rw [g2.out]⟩
          case measure => simp [intOf]
        · have g2 := Lib.hid (HU3.out hb' (by omega))
          clear HB1 HB2 HU1 HU2 HU3 hb'
          go_wp2_with fail
          go_round
          case rel => exact ⟨8, -1, by omega, by omega, rfl, by rw [g1.out], by rw [g2.out]⟩
          case measure => simp [intOf]
    · obtain rfl : I = -1 := by omega
      clear hI
      rw [f1.out, f2.out]
      have q0 := A4.cell 0 rfl
      have q1 := A4.cell 1 rfl
      have q2 := A4.cell 2 rfl
      have q3 := A4.cell 3 rfl
      go_wp2_with fail
      refine (first_any _ _ _ _ _ (by omega) (by omega)).mono ?_
      rintro e v7 ⟨rfl, d7⟩
      have A5 := A4.below d7
      clear q0 q1 q2 q3
      have q0 := A5.cell 0 rfl
      have q1 := A5.cell 1 rfl
      have q2 := A5.cell 2 rfl
      have q3 := A5.cell 3 rfl
      go_wp2_with fail
      refine (full_any _ _ _ _ _ _ (by omega) (by omega)).mono ?_
      rintro e v8 ⟨rfl, d8⟩
      clear q0 q1 q2 q3
      go_wp2_with fail
      refine (awake_any _).mono ?_
      rintro e v9 ⟨rfl, d9⟩
      go_wp2_with fail
      go_ret
      exact ⟨rfl, bnext (bnext (bnext hC4 d7) d8) d9⟩

theorem reads_walk (x n : Int) (w : World) (x1 : 0 ≤ x) (x2 : x ≤ 18446744073709551615) (n1 : -9223372036854775808 ≤ n) (n2 : n ≤ 9223372036854775807) :
    Calls Try.prog 8 #[.int .u64 x, .int .i64 n] w fun e w' => e = .returned (.bool true) ∧ Below w.heap.size w w' := by
  by_cases hc : 0 < x / 256 % 8
  · exact reads_t x n w x1 x2 n1 n2 hc
  · exact reads_f x n w x1 x2 n1 n2 hc
end Go.Proofs.Ytlipnaninocfhaa
