/- The law GeomWithin answers true. Condition: the numbers fit their kinds. -/
import Derived.Test.YtjdmchfneaebpaaGf
import Derived.Outline
namespace Go.Proofs.Ytjdmchfneaebpaa
open Go.RowKit
set_option linter.unusedVariables false

set_option maxRecDepth 100000 in
set_option maxHeartbeats 4000000 in
theorem within_walk (n t a b d : Int) (w : World) (n2 : -9223372036854775808 ≤ n) (n3 : n ≤ 9223372036854775807) (t2 : -9223372036854775808 ≤ t) (t3 : t ≤ 9223372036854775807) (a0 : -9223372036854775808 ≤ a) (a1 : a ≤ 9223372036854775807) (b0 : -9223372036854775808 ≤ b) (b1 : b ≤ 9223372036854775807) (d0 : -9223372036854775808 ≤ d) (d1 : d ≤ 9223372036854775807) :
    Calls Try.prog 4 #[.int .i64 n, .int .i64 t, .int .i64 a, .int .i64 b, .int .i64 d] w fun e w' => e = .returned (.bool true) ∧ Below w.heap.size w w' := by
  by_cases hno : n < 1 ∨ 256 < n ∨ t < 1 ∨ 64 < t
  · have HN := Lib.hid hno
    clear hno
    go_enter Try.func4, Try.ntmps4
    go_wp2_with fail
    refine (new_no n t _ HN.out).mono ?_
    rintro e w1 ⟨rfl, B⟩
    go_wp2_with (refine wpList_new_geo rfl (.tmp 11) (.tmp 19) rfl rfl 0 0 _ rfl ?_; intro W A BW; have B := bnext B BW; clear BW A)
    refine (awake_any _).mono ?_
    rintro e w2 ⟨rfl, b⟩
    go_wp2_with fail
    go_ret
    exact ⟨rfl, bnext B b⟩
  · have n0 : 1 ≤ n := by omega
    have n1 : n ≤ 256 := by omega
    have t0 : 1 ≤ t := by omega
    have t1 : t ≤ 64 := by omega
    clear hno n2 n3 t2 t3
    have VO := Lib.hid (fun k h => vI_ok n t a b d n0 n1 t0 t1 k h)
    have VG := Lib.hid (vA_get n t a b d)
    have W0 : 0 ≤ bs n t 19 := (bs_bd n t n0 n1 t0 t1 19 (by omega)).1
    have C0 := Lib.hid (fun w => v_count n t a b d n0 n1 t0 t1 w)
    have C1 := Lib.hid (fun w => v_bin n t a b d n0 n1 t0 t1 w)
    have C2 := Lib.hid (fun w => v_adds n t a b d n0 n1 t0 t1 w)
    have C3 := Lib.hid (fun w => v_serial n t a b d n0 n1 t0 t1 w)
    have C4 := Lib.hid (fun w => v_page n t a b d n0 n1 t0 t1 w)
    have C5 := Lib.hid (fun w => v_bits n t a b d n0 n1 t0 t1 w)
    have C6 := Lib.hid (fun w => v_remote n t a b d n0 n1 t0 t1 w)
    have C7 := Lib.hid (fun w => v_link n t a b d n0 n1 t0 t1 w)
    have C8 := Lib.hid (fun w => v_state n t a b d n0 n1 t0 t1 w)
    have C9 := Lib.hid (fun w => v_cache n t a b d n0 n1 t0 t1 w)
    have C10 := Lib.hid (fun w => v_head n t a b d n0 n1 t0 t1 w)
    have C11 := Lib.hid (fun w => v_hazard n t a b d n0 n1 t0 t1 w)
    have C12 := Lib.hid (fun w => v_gone n t a b d n0 n1 t0 t1 w)
    have C13 := Lib.hid (fun w => v_retired n t a b d n0 n1 t0 t1 w)
    have C14 := Lib.hid (fun w => v_next n t a b d n0 n1 t0 t1 a0 a1 w)
    have C15 := Lib.hid (fun w => v_item n t a b d n0 n1 t0 t1 a0 a1 w)
    go_enter Try.func4, Try.ntmps4
    go_wp2_with fail
    refine (new_yes n t _ n0 n1 t0 t1).mono ?_
    rintro e w1 ⟨rfl, B⟩
    go_wp2_with (refine wpList_new_geo rfl (.tmp 11) (.tmp 19) rfl rfl n t _ rfl ?_; intro W A BW; have B := bnext B BW; clear BW)
    have Lo := load_gb A
    refine tail_below 54 (by kernel_rfl) (by kernel_rfl) ?_
    simp only [List.take_succ_cons, List.take_zero, List.drop_succ_cons, List.drop_zero]
    go_big_quiet_want; refine quiet_load rfl rfl Lo ?_; simp only [Act.put, List.setIfInBounds_toArray, List.set_cons_succ, List.set_cons_zero]; go_big_quiet_on
    go_big_quiet_step (fail)
    go_big_quiet_step ((go_at_call 18; exact below_of (C0.out _)))
    go_big_quiet_want; refine quiet_load rfl rfl Lo ?_; simp only [Act.put, List.setIfInBounds_toArray, List.set_cons_succ, List.set_cons_zero]; go_big_quiet_on
    go_big_quiet_step (fail)
    go_big_quiet_step ((go_at_call 19; exact below_of (C1.out _)))
    go_big_quiet_want; refine quiet_load rfl rfl Lo ?_; simp only [Act.put, List.setIfInBounds_toArray, List.set_cons_succ, List.set_cons_zero]; go_big_quiet_on
    go_big_quiet_step (fail)
    go_big_quiet_step ((go_at_call 20; exact below_of (C2.out _)))
    go_big_quiet_want; refine quiet_load rfl rfl Lo ?_; simp only [Act.put, List.setIfInBounds_toArray, List.set_cons_succ, List.set_cons_zero]; go_big_quiet_on
    go_big_quiet_step (fail)
    go_big_quiet_step ((go_at_call 15; exact below_of (C3.out _)))
    go_big_quiet_want; refine quiet_load rfl rfl Lo ?_; simp only [Act.put, List.setIfInBounds_toArray, List.set_cons_succ, List.set_cons_zero]; go_big_quiet_on
    go_big_quiet_step (fail)
    go_big_quiet_step ((go_at_call 21; exact below_of (C4.out _)))
    go_big_quiet_want; refine quiet_load rfl rfl Lo ?_; simp only [Act.put, List.setIfInBounds_toArray, List.set_cons_succ, List.set_cons_zero]; go_big_quiet_on
    go_big_quiet_step (fail)
    go_big_quiet_step ((go_at_call 22; exact below_of (C5.out _)))
    go_big_quiet_want; refine quiet_load rfl rfl Lo ?_; simp only [Act.put, List.setIfInBounds_toArray, List.set_cons_succ, List.set_cons_zero]; go_big_quiet_on
    go_big_quiet_step (fail)
    go_big_quiet_step ((go_at_call 23; exact below_of (C6.out _)))
    go_big_quiet_want; refine quiet_load rfl rfl Lo ?_; simp only [Act.put, List.setIfInBounds_toArray, List.set_cons_succ, List.set_cons_zero]; go_big_quiet_on
    go_big_quiet_step (fail)
    go_big_quiet_step ((go_at_call 24; exact below_of (C7.out _)))
    go_big_quiet_want; refine quiet_load rfl rfl Lo ?_; simp only [Act.put, List.setIfInBounds_toArray, List.set_cons_succ, List.set_cons_zero]; go_big_quiet_on
    go_big_quiet_step (fail)
    go_big_quiet_step ((go_at_call 25; exact below_of (C8.out _)))
    go_big_quiet_want; refine quiet_load rfl rfl Lo ?_; simp only [Act.put, List.setIfInBounds_toArray, List.set_cons_succ, List.set_cons_zero]; go_big_quiet_on
    go_big_quiet_step (fail)
    go_big_quiet_step (fail)
    go_big_quiet_step (fail)
    go_big_quiet_step ((go_at_call 10; exact below_of (C9.out _)))
    go_big_quiet_want; refine quiet_load rfl rfl Lo ?_; simp only [Act.put, List.setIfInBounds_toArray, List.set_cons_succ, List.set_cons_zero]; go_big_quiet_on
    go_big_quiet_step (fail)
    go_big_quiet_step (fail)
    go_big_quiet_step ((go_at_call 11; exact below_of (C10.out _)))
    go_big_quiet_want; refine quiet_load rfl rfl Lo ?_; simp only [Act.put, List.setIfInBounds_toArray, List.set_cons_succ, List.set_cons_zero]; go_big_quiet_on
    go_big_quiet_step (fail)
    go_big_quiet_step (fail)
    go_big_quiet_step ((go_at_call 12; exact below_of (C11.out _)))
    go_big_quiet_want; refine quiet_load rfl rfl Lo ?_; simp only [Act.put, List.setIfInBounds_toArray, List.set_cons_succ, List.set_cons_zero]; go_big_quiet_on
    go_big_quiet_step (fail)
    go_big_quiet_step ((go_at_call 14; exact below_of (C12.out _)))
    go_big_quiet_want; refine quiet_load rfl rfl Lo ?_; simp only [Act.put, List.setIfInBounds_toArray, List.set_cons_succ, List.set_cons_zero]; go_big_quiet_on
    go_big_quiet_step (fail)
    go_big_quiet_step (fail)
    go_big_quiet_step ((go_at_call 13; exact below_of (C13.out _)))
    go_big_quiet_want; refine quiet_load rfl rfl Lo ?_; simp only [Act.put, List.setIfInBounds_toArray, List.set_cons_succ, List.set_cons_zero]; go_big_quiet_on
    go_big_quiet_step (fail)
    go_big_quiet_step ((go_at_call 17; exact below_of (C14.out _)))
    go_big_quiet_want; refine quiet_load rfl rfl Lo ?_; simp only [Act.put, List.setIfInBounds_toArray, List.set_cons_succ, List.set_cons_zero]; go_big_quiet_on
    go_big_quiet_step (fail)
    go_big_quiet_step (fail)
    go_big_quiet_step ((go_at_call 16; exact below_of (C15.out _)))
    refine wpQuiet_nil ?_
    rintro w5 ⟨s, rfl⟩
    have B5 := bnext B s.2
    have A5 := A.below s.2
    generalize s.1 = W5 at *
    clear A B Lo
    go_wp2_with fail
    generalize hV : World.alloc W5 _ = V
    have A1 : At V W5.heap.size (vA n t a b d) 3 := by rw [← hV]; exact At.last W5 (vA n t a b d) 3
    have AG : At V w1.heap.size (gb n t (bs n t)) 25 := by rw [← hV]; exact A5.alloc _
    have BV : Below w.heap.size w V := by rw [← hV]; exact B5.alloc B5.size _
    clear hV B5 A5 C0 C1 C2 C3 C4 C5 C6 C7 C8 C9 C11 C12 C13 C14
    go_loopw [14] (fun i wr => ∃ k : Nat, k ≤ 16 ∧ i = .int .i64 k ∧ Below V.heap.size V wr) (fun i _ => 16 - (intOf i).toNat)
    case atStart => exact ⟨0, by omega, rfl, Below.refl _ _⟩
    case round =>
      obtain ⟨k, hk, rfl, hB⟩ := hrel
      by_cases hkm : k < 16
      · have c1 := (A1.below hB).cell k (VG.out k hkm)
        have A' := AG.below hB
        obtain ⟨⟨v0, v1⟩, v2⟩ := VO.out k hkm
        clear VO VG
        have k0 : (0 : Int) ≤ (k : Int) := by omega
        have k1 : (k : Int) < 16 := by omega
        generalize vI n t a b d k = v at *
        go_wp2_with fail
        have z1 : decide (v < -1) = false := decide_eq_false (by omega)
        have z2 : decide (v ≥ bs n t 19) = false := decide_eq_false (by omega)
        have z3 : decide (bs n t 19 ≤ v) = false := decide_eq_false (by omega)
        by_cases ha : a < 0
        · obtain rfl := v2 ha
          have z4 : decide (a < 0) = true := decide_eq_true ha
          clear v2
          have q1 := bel_cell c1
          have L2 := load_gb A'
          refine region_below (by kernel_rfl) (by kernel_rfl) ?_
          repeat (first | (go_big_quiet_want; refine quiet_load rfl rfl L2 ?_; simp only [Act.put, List.setIfInBounds_toArray, List.set_cons_succ, List.set_cons_zero]; go_big_quiet_on) | go_big_quiet_step ((go_at_call 26; exact below_of (words_any n t (bs n t) _))))
          refine wpQuiet_nil ?_
          rintro w5 ⟨s, rfl⟩
          have B5 := bnext hB s.2
          clear c1 q1 L2 A'
          go_wp2_with fail
          go_roundw
          case rel => exact ⟨k + 1, by omega, by go_num, B5⟩
          case measure => simp [intOf]; omega
        · have z4 : decide (a < 0) = false := decide_eq_false ha
          clear v2
          have q1 := bel_cell c1
          have L2 := load_gb A'
          refine region_below (by kernel_rfl) (by kernel_rfl) ?_
          repeat (first | (go_big_quiet_want; refine quiet_load rfl rfl L2 ?_; simp only [Act.put, List.setIfInBounds_toArray, List.set_cons_succ, List.set_cons_zero]; go_big_quiet_on) | go_big_quiet_step ((go_at_call 26; exact below_of (words_any n t (bs n t) _))))
          refine wpQuiet_nil ?_
          rintro w5 ⟨s, rfl⟩
          have B5 := bnext hB s.2
          clear c1 q1 L2 A'
          go_wp2_with fail
          go_roundw
          case rel => exact ⟨k + 1, by omega, by go_num, B5⟩
          case measure => simp [intOf]; omega
      · obtain rfl : k = 16 := by omega
        have A' := AG.below hB
        have BW := bnext BV hB
        clear A1 AG BV hB VG VO
        by_cases hb : 0 ≤ b
        · go_wp2_with fail
          refine (awake_any _).mono ?_
          rintro e x4 ⟨rfl, b⟩
          go_wp2_with fail
          go_ret
          exact ⟨rfl, bnext BW b⟩
        · have e1 : vI n t a b d 10 = -1 := atv_neg _ _ _ (by rw [inv_neg2 a b 4 (by omega)]; decide)
          have e2 : vI n t a b d 15 = -1 := atv_neg _ _ _ (by rw [inv_neg2 (a - 1) b 8 (by omega)]; decide)
          rw [e1] at C10
          rw [e2] at C15
          clear e1 e2
          go_wp2_with (refine wpList_load_geo (by rfl) (.tmp 11) rfl _ rfl n t _ A' ?_)
          refine (C10.out _).mono ?_
          rintro e x1 ⟨rfl, b⟩
          replace A' := A'.below b
          replace BW := bnext BW b
          clear b
          go_wp2_with (refine wpList_load_geo (by rfl) (.tmp 11) rfl _ rfl n t _ A' ?_)
          refine (C15.out _).mono ?_
          rintro e x2 ⟨rfl, b⟩
          replace A' := A'.below b
          replace BW := bnext BW b
          clear b
          go_wp2_with fail
          refine (awake_any _).mono ?_
          rintro e x4 ⟨rfl, b⟩
          go_wp2_with fail
          go_ret
          exact ⟨rfl, bnext BW b⟩
end Go.Proofs.Ytjdmchfneaebpaa
