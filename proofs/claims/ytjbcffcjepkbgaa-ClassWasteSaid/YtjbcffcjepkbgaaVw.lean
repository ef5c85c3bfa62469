/- The law ClassWaste answers true. Condition: the numbers fit their kinds. -/
import Derived.Test.YtjbcffcjepkbgaaVf
import Derived.Deep.Cut
import Derived.Deep.QuietTactic
import Derived.BigQuiet
namespace Go.Proofs.Ytjbcffcjepkbgaa
open Go.RowKit
set_option linter.unusedVariables false

theorem wrap64_pw2 (a : Int) (h : 0 ≤ a) : wrap64 (2 ^ (a % 7).toNat) = pw2 (a % 7) := by
  have := pw2_bd (a % 7) (by omega) (by omega)
  unfold pw2 at *
  exact IntWalk.wrap64_in _ ⟨by omega, by omega⟩

theorem Try.info3 : (Try.prog.info? 3).map (fun i => (i.zero, i.size, i.bytes)) = some (some (.int .i64 0), 1, 8) := by kernel_rfl

set_option maxRecDepth 100000 in
set_option maxHeartbeats 4000000 in
theorem waste_walk (s a b : Int) (a3 : Option Addr) (l3 c3 : Nat) (z3 : List Int) (a4 : Option Addr) (l4 c4 : Nat) (z4 : List Int) (w : World) (s0 : 0 ≤ s) (s1 : s ≤ 255) (a0 : 0 ≤ a) (a1 : a ≤ 255) (b0 : 0 ≤ b) (b1 : b ≤ 255) (r3 : IsRow .i64 w a3 l3 c3 z3) (r4 : IsRow .i64 w a4 l4 c4 z4) (m3 : l3 ≤ 9223372036854775807) (m4 : l4 ≤ 9223372036854775807) :
    Calls Try.prog 7 #[.int .u8 s, .int .u8 a, .int .u8 b, .slice a3 l3 c3, .slice a4 l4 c4] w fun e w' => e = .returned (.bool true) ∧ Below w.heap.size w w' := by
  obtain ⟨i0, hi, hz0, hz1, hz2⟩ := info_parts Try.info23
  by_cases h3 : 6 < l3
  · go_enter Try.func7, Try.ntmps7
    go_wp2_with fail
    refine (awake_any _).mono ?_
    rintro e w6 ⟨rfl, b6⟩
    go_wp2_with fail
    go_ret
    exact ⟨rfl, b6⟩
  by_cases h4 : 6 < l4
  · go_enter Try.func7, Try.ntmps7
    go_wp2_with fail
    refine (awake_any _).mono ?_
    rintro e w6 ⟨rfl, b6⟩
    go_wp2_with fail
    go_ret
    exact ⟨rfl, b6⟩
  have hn1 : 1 ≤ s % 64 + 1 := by omega
  have hn2 : s % 64 + 1 ≤ 64 := by omega
  have HA := Lib.hid (grain_facts (s % 64 + 1) hn1 hn2)
  have HP := Lib.hid (page_facts (s % 64 + 1) hn1 hn2)
  have HL := Lib.hid (less_facts (s % 64 + 1) (a % 7) (b % 7) hn1 hn2 (by omega) (by omega) (by omega) (by omega))
  have HM := Lib.hid (more_facts (s % 64 + 1) (a % 7) hn1 hn2 (by omega) (by omega))
  have HX := Lib.hid (pw2_bd (a % 7) (by omega) (by omega))
  have HY := Lib.hid (pw2_bd (b % 7) (by omega) (by omega))
  have R3 := Lib.hid r3
  have R4 := Lib.hid r4
  clear r3 r4
  have hN : ∃ n, s % 64 + 1 = n := ⟨_, rfl⟩
  obtain ⟨n, hN⟩ := hN
  rw [hN] at HA HP HL HM hn1 hn2
  go_enter Try.func7, Try.ntmps7
  go_wp2_with fail
  refine (of_any _ _ _ (by omega) (by omega)).mono ?_
  rintro e w1 ⟨rfl, B1⟩
  generalize ofI n 1 = k at *
  go_upto_region 5 with fail
  go_cut [75] from 22 (fun s75 wx => s75 = .bool false ∧ Below w.heap.size w wx)
  case first =>
    clear hN
    by_cases h32 : n ≤ 32
    · obtain ⟨k0, k1, k2, k3⟩ := HA.out.1 h32
      have hI := ixI k k0 k1
      have hF : ∀ w, (Instr.field 23 (.agg #[.int .i64 (szI k), .int .i64 (alI k), .int .i64 (blI k)]) 0).run Try.prog w = .ok (.int .i64 (szI k)) w := fun _ => by kernel_rfl
      generalize szI k = sz at *
      generalize alI k = al at *
      generalize blI k = bl at *
      go_wp2_with fail
      refine (table_lit _).mono ?_
      rintro e w2 ⟨rfl, B2⟩
      go_wp2_with fail
      refine (table_lit _).mono ?_
      rintro e w3 ⟨rfl, B3⟩
      go_wp2_with fail
      refine (pages_any _ _ (by omega) (by omega)).mono ?_
      rintro e w4 ⟨rfl, rfl⟩
      rw [HP.out]
      go_wp2_with fail
      go_meet
      exact ⟨congrArg Value.bool (by simp only [Bool.or_eq_false_iff, decide_eq_false_iff_not]; omega), bnext (bnext B1 B2) B3⟩
    · have hk : k = -1 := HA.out.2 (by omega)
      subst hk
      go_wp2_with fail
      refine (pages_any _ _ (by omega) (by omega)).mono ?_
      rintro e w4 ⟨rfl, rfl⟩
      rw [HP.out]
      go_wp2_with fail
      go_meet
      exact ⟨congrArg Value.bool (decide_eq_false (by omega)), B1⟩
  case rest =>
    obtain ⟨rfl, B2⟩ := hcut
    go_upto_region 8 with fail
    have HPa := Lib.hid (wrap64_pw2 a a0)
    have HPb := Lib.hid (wrap64_pw2 b b0)
    generalize wrap64 (2 ^ (a % 7).toNat) = p at *
    generalize wrap64 (2 ^ (b % 7).toNat) = q at *
    generalize pw2 (a % 7) = p' at *
    generalize pw2 (b % 7) = q' at *
    obtain rfl := HPa.out
    obtain rfl := HPb.out
    clear HPa HPb HA HP B1
    obtain ⟨p1, p2⟩ := HX.out
    obtain ⟨q1, q2⟩ := HY.out
    go_cut [15, 16] from 22 (fun s15 s16 wx => ∃ x y : Int, s15 = .int .i64 x ∧ s16 = .int .i64 y ∧ (0 ≤ y → 0 ≤ x ∧ x ≤ y) ∧ Below w.heap.size w wx)
    case first =>
      have HL' := HL.out
      clear HL
      rcases (show p < q ∨ p = q ∨ q < p by omega) with hpq | hpq | hpq
      · have hpq1 : p ≤ q := by omega
        have hpq2 : ¬ q ≤ p := by omega
        rw [Int.min_eq_left hpq1, Int.max_eq_right hpq1] at HL'
        have HL := Lib.hid HL'
        clear HL' hN
        go_wp2_with fail
        refine (of_any _ _ _ (by omega) (by omega)).mono ?_
        rintro e w2 ⟨rfl, B3⟩
        go_wp2_with fail
        refine (of_any _ _ _ (by omega) (by omega)).mono ?_
        rintro e w3 ⟨rfl, B4⟩
        go_wp2_with fail
        go_meet
        exact ⟨_, _, rfl, rfl, HL.out, bnext (bnext B2 B3) B4⟩
      · subst hpq
        rw [Int.min_self, Int.max_self] at HL'
        have HL := Lib.hid HL'
        clear HL' hN
        go_wp2_with fail
        refine (of_any _ _ _ (by omega) (by omega)).mono ?_
        rintro e w2 ⟨rfl, B3⟩
        go_wp2_with fail
        refine (of_any _ _ _ (by omega) (by omega)).mono ?_
        rintro e w3 ⟨rfl, B4⟩
        go_wp2_with fail
        go_meet
        exact ⟨_, _, rfl, rfl, HL.out, bnext (bnext B2 B3) B4⟩
      · have hpq1 : q ≤ p := by omega
        have hpq2 : ¬ p ≤ q := by omega
        rw [Int.min_eq_right hpq1, Int.max_eq_left hpq1] at HL'
        have HL := Lib.hid HL'
        clear HL' hN
        go_wp2_with fail
        refine (of_any _ _ _ (by omega) (by omega)).mono ?_
        rintro e w2 ⟨rfl, B3⟩
        go_wp2_with fail
        refine (of_any _ _ _ (by omega) (by omega)).mono ?_
        rintro e w3 ⟨rfl, B4⟩
        go_wp2_with fail
        go_meet
        exact ⟨_, _, rfl, rfl, HL.out, bnext (bnext B2 B3) B4⟩
    case rest =>
    clear B2 HL HY
    obtain ⟨x, y, rfl, rfl, hxy, B2⟩ := hcut
    have HXY := Lib.hid hxy
    clear hxy
    go_upto_region 9 with fail
    go_cut [102] from 22 (fun s102 wx => s102 = .bool false ∧ Below w.heap.size w wx)
    case first =>
      clear hN
      by_cases hy : 0 ≤ y
      · obtain ⟨x0, x1⟩ := HXY.out hy
        go_wp2_with fail
        go_meet
        exact ⟨congrArg Value.bool (by simp only [Bool.or_eq_false_iff, decide_eq_false_iff_not]; omega), B2⟩
      · go_wp2_with fail
        go_meet
        exact ⟨rfl, B2⟩
    case rest =>
    clear B2 HXY
    obtain ⟨rfl, B2⟩ := hcut
    go_wp2_with fail
    refine (of_any _ _ _ (by omega) (by omega)).mono ?_
    rintro e w2 ⟨rfl, B3⟩
    go_wp2_with fail
    refine (of_any _ _ _ (by omega) (by omega)).mono ?_
    rintro e w3 ⟨rfl, B4⟩
    have B5 := bnext (bnext B2 B3) B4
    have HM' := HM.out
    clear B2 B3 B4 HM
    generalize ofI n p = x at *
    generalize ofI (n + 1) p = y at *
    go_upto_region 13 with fail
    go_cut [120] from 22 (fun s120 wx => s120 = .bool false ∧ Below w.heap.size w wx)
    case first =>
      clear hN
      by_cases hy : 0 ≤ y
      · obtain ⟨x0, x1⟩ := HM' hy
        clear HM'
        go_wp2_with fail
        go_meet
        exact ⟨congrArg Value.bool (by simp only [Bool.or_eq_false_iff, decide_eq_false_iff_not]; omega), B5⟩
      · clear HM'
        go_wp2_with fail
        go_meet
        exact ⟨rfl, B5⟩
    case rest =>
    clear B5 HM'
    obtain ⟨rfl, B2⟩ := hcut
    obtain ⟨j0, ji, jz0, jz1, jz2⟩ := info_parts Try.info3
    have Ba : Below w.heap.size w (wc.alloc (.cells #[] 3)) := B2.alloc B2.size _
    have F3 := frm_row (R3.out.below Ba)
    have O0 : (wc.alloc (.cells #[] 3)).ownsRow w.heap.size 3 1 (.slice (some ⟨wc.heap.size, 0, none⟩) 0 0) 0 [] := World.ownsRow_made wc #[] 0 B2.size (Nat.zero_le _) rfl
    have s0 := Ba.size
    have s2 := B2.size
    have hrow : ∀ j, (Value.slice (some ⟨wc.heap.size, 0, none⟩) 0 0).ownBlock = some j → w.heap.size ≤ j := by intro j hj; simp [Value.ownBlock] at hj; omega
    go_upto_region 15 with fail
    clear hN
    go_wp2_with (first
      | (at_builtin; refine wpList_append_frm rfl (.tmp 121) (.tmp 122) 34 rfl w.heap.size 3 j0 (.int .i64 0) 1 8 Try.underlying34 ji jz0 jz1 jz2 rfl (by decide) _ _ _ rfl O0 _ _ _ rfl F3 (by unfold maxLen; omega) (by omega) s0 ?_; intro v1 x1 O1 G1; simp only [Nat.zero_add, List.nil_append] at O1; have Bb := Ba.grown G1 s0 hrow; have F4 := frm_row (R4.out.below Bb); have s1 := Bb.size)
      | (at_builtin; refine wpList_append_frm rfl (.tmp 123) (.tmp 124) 34 rfl w.heap.size 3 j0 (.int .i64 0) 1 8 Try.underlying34 ji jz0 jz1 jz2 rfl (by decide) _ _ _ rfl O1 _ _ _ rfl F4 (by unfold maxLen; omega) (by omega) s1 ?_; intro v2 x2 O2 G2; have Bc := Bb.grown G2 s1 (fun j hj => (O1.lt j hj).1)))
    refine (make_own _ _ _ (z3.take l3 ++ z4.take l4) _ (by rw [List.map_append]; exact O2) (by omega)).mono ?_
    rintro e x3 ⟨vA, rfl, OA, Bd⟩
    have Be := bnext Bc Bd
    have Be3 := Be.size
    clear F3 O0 s0 s2 hrow Ba Bb F4 s1 O1 G1 O2 G2 Bc Bd B2
    go_wp2_with fail
    refine (make_row _ _ _ z3 _ (R3.out.below Be) (by omega)).mono ?_
    rintro e x4 ⟨v5, rfl, O5, Bf⟩
    have HA3 : ∀ k, vA.ownBlock = some k → k < x3.heap.size := fun k hk => (OA.lt k hk).2
    have OA4 := own_below OA Bf
    have Bg := bnext Be Bf
    have s5 := Bf.size
    go_wp2_with fail
    refine (make_row _ _ _ z4 _ (R4.out.below Bg) (by omega)).mono ?_
    rintro e x6 ⟨v6, rfl, O6, Bh⟩
    have OA6 := own_below OA4 Bh
    have O56 := own_below O5 Bh
    have Bi := bnext Bg Bh
    have s6 := Bh.size
    have F6 := frm_own O6 (one_C _)
    have s7 : x3.heap.size ≤ x6.heap.size := by omega
    have l5 := List.length_filter_le good (z3.take l3)
    have l6 := List.length_filter_le good (z4.take l4)
    have l7 := List.length_take_le l3 z3
    have l8 := List.length_take_le l4 z4
    change (G (z3.take l3)).length ≤ _ at l5
    change (G (z4.take l4)).length ≤ _ at l6
    have s8 : (G (z3.take l3)).length + (G (z4.take l4)).length ≤ maxLen := by unfold maxLen; omega
    have s9 : ((G (z3.take l3)).length + (G (z4.take l4)).length) * 24 ≤ 140737488355328 := by omega
    have sm : ∀ m, m = (G (z3.take l3)).length + (G (z4.take l4)).length → m ≤ 12 := fun m h => by omega
    clear OA OA4 O5 O6 Be Bf Bg Bh l5 l6 l7 l8
    go_wp2_with (at_builtin; go_loud (refine wpList_append_frm rfl (.tmp 128) (.tmp 130) 26 rfl x3.heap.size 23 i0 _ 3 24 Try.underlying26 hi hz0 hz1 hz2 rfl (by decide) _ _ _ rfl O56 _ _ _ rfl F6 s8 s9 s7 ?_; intro v7 x7 O7 G7; have Bj := Bi.grown G7 Bi.size (fun j hj => Nat.le_trans Be3 (O56.lt j hj).1); obtain ⟨m, aA, cA, a7, c7, rfl, rfl, hm, hC⟩ := both_mk OA6 HA3 O56 G7 O7; have hm12 := sm m hm; have HC := Lib.hid hC; clear hC hm OA6 HA3 O56 G7 O7 F6 Bi s5 s6 s7 s8 s9 sm Be3))
    go_loopw [21] (fun i wr => ∃ k : Nat, k ≤ m ∧ i = .int .i64 k ∧ Below x7.heap.size x7 wr) (fun i _ => m - (intOf i).toNat)
    case atStart => exact ⟨0, by omega, rfl, Below.refl _ _⟩
    case round =>
      obtain ⟨k, hk, rfl, hB⟩ := hrel
      have hz := hB.size
      by_cases hkm : k < m
      · obtain ⟨g, h, rfl, rfl, hg, hh, hc⟩ := HC.out k hkm
        have c0 := (hB.cell (p := ⟨g, k * 3 + 0, none⟩) hg).trans (hc 0 (by omega)).1
        have c1 := (hB.cell (p := ⟨g, k * 3 + 1, none⟩) hg).trans (hc 1 (by omega)).1
        have c2 := (hB.cell (p := ⟨g, k * 3 + 2, none⟩) hg).trans (hc 2 (by omega)).1
        have d0 := (hB.cell (p := ⟨h, k * 3 + 0, none⟩) hh).trans (hc 0 (by omega)).2
        have d1 := (hB.cell (p := ⟨h, k * 3 + 1, none⟩) hh).trans (hc 1 (by omega)).2
        have d2 := (hB.cell (p := ⟨h, k * 3 + 2, none⟩) hh).trans (hc 2 (by omega)).2
        clear hc HC
        generalize (G (List.take l3 z3 ++ List.take l4 z4)).getD k 0 = n at *
        simp only [cls, List.getElem?_cons_zero, List.getElem?_cons_succ, Nat.add_zero] at c0 c1 c2 d0 d1 d2
        generalize bits .and .i64 n (-n) = n1 at *
        generalize 64 / n = n2 at *
        have hE : ∀ w, (eqGuard .neq 23 (.tmp 146) (.tmp 150) (.agg #[.int .i64 n, .int .i64 n1, .int .i64 n2]) (.agg #[.int .i64 n, .int .i64 n1, .int .i64 n2])).run Try.prog w = .ok () w := fun _ => by kernel_rfl
        go_wp2_with fail

        go_quiet (fail)

        go_wp2_with fail
        go_roundw
        case rel => exact ⟨k + 1, by omega, by go_num, below_drewN hB _⟩
        case measure => simp [intOf]; omega
      · obtain rfl : k = m := by omega
        go_wp2_with fail
        refine (awake_any _).mono ?_
        rintro e w6 ⟨rfl, b6⟩
        go_wp2_with fail
        go_ret
        exact ⟨rfl, bnext (bnext Bj hB) b6⟩
theorem row_len {w : World} {a : Option Addr} {len cap : Nat} {zs : List Int} (h : IsRow .i64 w a len cap zs) : len ≤ 9223372036854775807 := by
  rcases h with ⟨_, rfl, _⟩ | ⟨_, _, h1, h2, _⟩
  · omega
  · unfold maxLen at h2; omega
theorem waste_all (s a b : Int) (a3 : Option Addr) (l3 c3 : Nat) (z3 : List Int) (a4 : Option Addr) (l4 c4 : Nat) (z4 : List Int) (w : World) (s0 : 0 ≤ s) (s1 : s ≤ 255) (a0 : 0 ≤ a) (a1 : a ≤ 255) (b0 : 0 ≤ b) (b1 : b ≤ 255) (r3 : IsRow .i64 w a3 l3 c3 z3) (r4 : IsRow .i64 w a4 l4 c4 z4) :
    Calls Try.prog 7 #[.int .u8 s, .int .u8 a, .int .u8 b, .slice a3 l3 c3, .slice a4 l4 c4] w fun e w' => e = .returned (.bool true) ∧ Below w.heap.size w w' :=
  waste_walk s a b a3 l3 c3 z3 a4 l4 c4 z4 w s0 s1 a0 a1 b0 b1 r3 r4 (row_len r3) (row_len r4)
end Go.Proofs.Ytjbcffcjepkbgaa
