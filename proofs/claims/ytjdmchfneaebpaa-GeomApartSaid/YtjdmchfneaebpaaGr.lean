/- The law GeomRows answers true. Condition: the numbers fit their kinds. -/
import Derived.Test.YtjdmchfneaebpaaGf
import Derived.Outline
namespace Go.Proofs.Ytjdmchfneaebpaa
open Go.RowKit
set_option linter.unusedVariables false

set_option maxRecDepth 100000 in
set_option maxHeartbeats 4000000 in
theorem rows_main (n h t u cl sl a b c k x y m tu tu8 c2 d1 x1 x2 x3 h1 h2 tu4 d2 z1 z2 tu2 d3 hh2 hh3 hh4 r1 r2 d4 p1 p2 g1 g2 s1 s2 i1 i2 d5 xy xy8 q1 q2 i3 q3 : Int) (w : World) (n0 : 1 ≤ n) (n1 : n ≤ 256) (h0 : 1 ≤ h) (h1' : h ≤ 64) (t0 : 0 ≤ t) (t1 : t < h) (u0 : 0 ≤ u) (u1 : u < h)
    (cl0 : 0 ≤ cl) (cl1 : cl ≤ 255) (sl0 : 0 ≤ sl) (sl1 : sl ≤ 255) (a0 : 0 ≤ a) (a1 : a ≤ 65535) (b0 : 0 ≤ b) (b1 : b ≤ 65535) (hc : cl % 4 = c) (hk : sl % 8 = k)
    (m0 : 1 ≤ m) (m1 : m ≤ 100000) (am0 : 0 ≤ a % m) (am1 : a % m ≤ 100000) (bm0 : 0 ≤ b % m) (bm1 : b % m ≤ 100000) (hx : 1 + a % m = x) (hy : 1 + b % m = y)
    (E0 : IntKind.i64.wrap (x1 - x2) = d1)
    (E1 : IntKind.i64.wrap (t - u) = tu)
    (E2 : IntKind.i64.wrap (8 * tu) = tu8)
    (E3 : IntKind.i64.wrap (2 * c) = c2)
    (E4 : IntKind.i64.wrap (tu8 + c2) = d1)
    (E5 : IntKind.i64.wrap (x1 + 1) = x3)
    (E6 : IntKind.i64.wrap (h1 - h2) = d2)
    (E7 : IntKind.i64.wrap (4 * tu) = tu4)
    (E8 : IntKind.i64.wrap (tu4 + c) = d2)
    (E9 : IntKind.i64.wrap (z1 - z2) = d3)
    (E10 : IntKind.i64.wrap (2 * tu) = tu2)
    (E11 : IntKind.i64.wrap (tu2 + 1) = d3)
    (E12 : IntKind.i64.wrap (2 * h) = hh2)
    (E13 : IntKind.i64.wrap (hh2 + 1) = hh3)
    (E14 : IntKind.i64.wrap (r1 - r2) = d4)
    (E15 : IntKind.i64.wrap (hh2 + 2) = hh4)
    (E16 : IntKind.i64.wrap (hh4 * tu) = p1)
    (E17 : IntKind.i64.wrap (p1 + hh2) = p2)
    (E18 : IntKind.i64.wrap (p2 + 1) = d4)
    (E19 : IntKind.i64.wrap (g1 - g2) = tu)
    (E20 : IntKind.i64.wrap (s1 - s2) = tu)
    (E21 : IntKind.i64.wrap (i1 - i2) = d5)
    (E22 : IntKind.i64.wrap (x - y) = xy)
    (E23 : IntKind.i64.wrap (8 * xy) = xy8)
    (E24 : IntKind.i64.wrap (xy8 + k) = d5)
    (E25 : IntKind.i64.wrap (q1 - q2) = xy)
    (E26 : IntKind.i64.wrap (q3 + 1) = i3)
    (K1 : ∀ w, Calls Try.prog 10 #[.agg (gb n h (bs n h)), .int .i64 t, .int .i64 c, .int .i64 0] w fun e w' => e = .returned (.int .i64 x1) ∧ Below w.heap.size w w')
    (K2 : ∀ w, Calls Try.prog 10 #[.agg (gb n h (bs n h)), .int .i64 u, .int .i64 0, .int .i64 0] w fun e w' => e = .returned (.int .i64 x2) ∧ Below w.heap.size w w')
    (K3 : ∀ w, Calls Try.prog 10 #[.agg (gb n h (bs n h)), .int .i64 t, .int .i64 c, .int .i64 1] w fun e w' => e = .returned (.int .i64 x3) ∧ Below w.heap.size w w')
    (K4 : ∀ w, Calls Try.prog 11 #[.agg (gb n h (bs n h)), .int .i64 t, .int .i64 c] w fun e w' => e = .returned (.int .i64 h1) ∧ Below w.heap.size w w')
    (K5 : ∀ w, Calls Try.prog 11 #[.agg (gb n h (bs n h)), .int .i64 u, .int .i64 0] w fun e w' => e = .returned (.int .i64 h2) ∧ Below w.heap.size w w')
    (K6 : ∀ w, Calls Try.prog 12 #[.agg (gb n h (bs n h)), .int .i64 t, .int .i64 1] w fun e w' => e = .returned (.int .i64 z1) ∧ Below w.heap.size w w')
    (K7 : ∀ w, Calls Try.prog 12 #[.agg (gb n h (bs n h)), .int .i64 u, .int .i64 0] w fun e w' => e = .returned (.int .i64 z2) ∧ Below w.heap.size w w')
    (K8 : ∀ w, Calls Try.prog 13 #[.agg (gb n h (bs n h)), .int .i64 t, .int .i64 hh3] w fun e w' => e = .returned (.int .i64 r1) ∧ Below w.heap.size w w')
    (K9 : ∀ w, Calls Try.prog 13 #[.agg (gb n h (bs n h)), .int .i64 u, .int .i64 0] w fun e w' => e = .returned (.int .i64 r2) ∧ Below w.heap.size w w')
    (K10 : ∀ w, Calls Try.prog 14 #[.agg (gb n h (bs n h)), .int .i64 t] w fun e w' => e = .returned (.int .i64 g1) ∧ Below w.heap.size w w')
    (K11 : ∀ w, Calls Try.prog 14 #[.agg (gb n h (bs n h)), .int .i64 u] w fun e w' => e = .returned (.int .i64 g2) ∧ Below w.heap.size w w')
    (K12 : ∀ w, Calls Try.prog 15 #[.agg (gb n h (bs n h)), .int .i64 t] w fun e w' => e = .returned (.int .i64 s1) ∧ Below w.heap.size w w')
    (K13 : ∀ w, Calls Try.prog 15 #[.agg (gb n h (bs n h)), .int .i64 u] w fun e w' => e = .returned (.int .i64 s2) ∧ Below w.heap.size w w')
    (K14 : ∀ w, Calls Try.prog 16 #[.agg (gb n h (bs n h)), .int .i64 x, .int .i64 k] w fun e w' => e = .returned (.int .i64 i1) ∧ Below w.heap.size w w')
    (K15 : ∀ w, Calls Try.prog 16 #[.agg (gb n h (bs n h)), .int .i64 y, .int .i64 0] w fun e w' => e = .returned (.int .i64 i2) ∧ Below w.heap.size w w')
    (K16 : ∀ w, Calls Try.prog 17 #[.agg (gb n h (bs n h)), .int .i64 x] w fun e w' => e = .returned (.int .i64 q1) ∧ Below w.heap.size w w')
    (K17 : ∀ w, Calls Try.prog 17 #[.agg (gb n h (bs n h)), .int .i64 y] w fun e w' => e = .returned (.int .i64 q2) ∧ Below w.heap.size w w')
    (K18 : ∀ w, Calls Try.prog 16 #[.agg (gb n h (bs n h)), .int .i64 1, .int .i64 0] w fun e w' => e = .returned (.int .i64 i3) ∧ Below w.heap.size w w')
    (K19 : ∀ w, Calls Try.prog 9 #[.agg (gb n h (bs n h))] w fun e w' => e = .returned (.int .i64 m) ∧ Below w.heap.size w w')
    (K20 : ∀ w, Calls Try.prog 17 #[.agg (gb n h (bs n h)), .int .i64 m] w fun e w' => e = .returned (.int .i64 q3) ∧ Below w.heap.size w w') :
    Calls Try.prog 3 #[.int .i64 n, .int .i64 h, .int .i64 t, .int .i64 u, .int .u8 cl, .int .u8 sl, .int .u16 a, .int .u16 b] w fun e w' => e = .returned (.bool true) ∧ Below w.heap.size w w' := by
    have K1 := Lib.hid K1
    have K2 := Lib.hid K2
    have K3 := Lib.hid K3
    have K4 := Lib.hid K4
    have K5 := Lib.hid K5
    have K6 := Lib.hid K6
    have K7 := Lib.hid K7
    have K8 := Lib.hid K8
    have K9 := Lib.hid K9
    have K10 := Lib.hid K10
    have K11 := Lib.hid K11
    have K12 := Lib.hid K12
    have K13 := Lib.hid K13
    have K14 := Lib.hid K14
    have K15 := Lib.hid K15
    have K16 := Lib.hid K16
    have K17 := Lib.hid K17
    have K18 := Lib.hid K18
    have K19 := Lib.hid K19
    have K20 := Lib.hid K20
    have F0 := Lib.hid E0
    have F1 := Lib.hid E1
    have F2 := Lib.hid E2
    have F3 := Lib.hid E3
    have F4 := Lib.hid E4
    have F5 := Lib.hid E5
    have F6 := Lib.hid E6
    have F7 := Lib.hid E7
    have F8 := Lib.hid E8
    have F9 := Lib.hid E9
    have F10 := Lib.hid E10
    have F11 := Lib.hid E11
    have F12 := Lib.hid E12
    have F13 := Lib.hid E13
    have F14 := Lib.hid E14
    have F15 := Lib.hid E15
    have F16 := Lib.hid E16
    have F17 := Lib.hid E17
    have F18 := Lib.hid E18
    have F19 := Lib.hid E19
    have F20 := Lib.hid E20
    have F21 := Lib.hid E21
    have F22 := Lib.hid E22
    have F23 := Lib.hid E23
    have F24 := Lib.hid E24
    have F25 := Lib.hid E25
    have F26 := Lib.hid E26
    clear E0 E1 E2 E3 E4 E5 E6 E7 E8 E9 E10 E11 E12 E13 E14 E15 E16 E17 E18 E19 E20 E21 E22 E23 E24 E25 E26
    have HX := Lib.hid hx
    have HY := Lib.hid hy
    clear hx hy
    go_enter Try.func3, Try.ntmps3
    go_wp2_with fail
    refine (new_yes n h _ n0 n1 h0 h1').mono ?_
    rintro e w1 ⟨rfl, B⟩
    go_upto_region 6 with (refine wpList_new_geo rfl (.tmp 17) (.tmp 27) rfl rfl n h _ rfl ?_; intro W A BW; replace B := bnext B BW; clear BW)
    clear hc hk
    go_wp2_with (refine wpList_load_geo (by rfl) (.tmp 17) rfl _ rfl n h _ A ?_)
    refine (K19.out _).mono ?_
    rintro e w2 ⟨rfl, bb⟩
    replace A := A.below bb
    replace B := bnext B bb
    clear bb
    have hx := HX.out
    go_upto_region 7 with fail
    clear hx
    go_wp2_with (refine wpList_load_geo (by rfl) (.tmp 17) rfl _ rfl n h _ A ?_)
    refine (K19.out _).mono ?_
    rintro e w3 ⟨rfl, bb⟩
    replace A := A.below bb
    replace B := bnext B bb
    clear bb
    have hy := HY.out
    go_upto_region 8 with fail
    clear hy HX HY
    have E0 := F0.out
    have E1 := F1.out
    have E2 := F2.out
    have E3 := F3.out
    have E4 := F4.out
    have E5 := F5.out
    have E6 := F6.out
    have E7 := F7.out
    have E8 := F8.out
    have E9 := F9.out
    have E10 := F10.out
    have E11 := F11.out
    have Lo := load_gb A
    refine region_below (by kernel_rfl) (by kernel_rfl) ?_
    go_big_quiet_want; refine quiet_load rfl rfl Lo ?_; simp only [Act.put, List.setIfInBounds_toArray, List.set_cons_succ, List.set_cons_zero]; go_big_quiet_on
    go_big_quiet_step (fail)
    go_big_quiet_step (fail)
    go_big_quiet_step ((go_at_call 10; exact below_of (K1.out _)))
    go_big_quiet_want; refine quiet_load rfl rfl Lo ?_; simp only [Act.put, List.setIfInBounds_toArray, List.set_cons_succ, List.set_cons_zero]; go_big_quiet_on
    go_big_quiet_step (fail)
    go_big_quiet_step ((go_at_call 10; exact below_of (K2.out _)))
    go_big_quiet_step (fail)
    go_big_quiet_step (fail)
    go_big_quiet_step (fail)
    go_big_quiet_step (fail)
    go_big_quiet_step (fail)
    go_big_quiet_step (fail)
    go_big_quiet_step (fail)
    go_big_quiet_step (fail)
    go_big_quiet_step (fail)
    go_big_quiet_step (fail)
    go_big_quiet_want; refine quiet_load rfl rfl Lo ?_; simp only [Act.put, List.setIfInBounds_toArray, List.set_cons_succ, List.set_cons_zero]; go_big_quiet_on
    go_big_quiet_step (fail)
    go_big_quiet_step (fail)
    go_big_quiet_step ((go_at_call 10; exact below_of (K3.out _)))
    go_big_quiet_want; refine quiet_load rfl rfl Lo ?_; simp only [Act.put, List.setIfInBounds_toArray, List.set_cons_succ, List.set_cons_zero]; go_big_quiet_on
    go_big_quiet_step (fail)
    go_big_quiet_step (fail)
    go_big_quiet_step ((go_at_call 10; exact below_of (K1.out _)))
    go_big_quiet_step (fail)
    go_big_quiet_step (fail)
    go_big_quiet_step (fail)
    go_big_quiet_step (fail)
    go_big_quiet_want; refine quiet_load rfl rfl Lo ?_; simp only [Act.put, List.setIfInBounds_toArray, List.set_cons_succ, List.set_cons_zero]; go_big_quiet_on
    go_big_quiet_step (fail)
    go_big_quiet_step (fail)
    go_big_quiet_step ((go_at_call 11; exact below_of (K4.out _)))
    go_big_quiet_want; refine quiet_load rfl rfl Lo ?_; simp only [Act.put, List.setIfInBounds_toArray, List.set_cons_succ, List.set_cons_zero]; go_big_quiet_on
    go_big_quiet_step (fail)
    go_big_quiet_step ((go_at_call 11; exact below_of (K5.out _)))
    go_big_quiet_step (fail)
    go_big_quiet_step (fail)
    go_big_quiet_step (fail)
    go_big_quiet_step (fail)
    go_big_quiet_step (fail)
    go_big_quiet_step (fail)
    go_big_quiet_step (fail)
    go_big_quiet_step (fail)
    go_big_quiet_step (fail)
    go_big_quiet_step (fail)
    go_big_quiet_want; refine quiet_load rfl rfl Lo ?_; simp only [Act.put, List.setIfInBounds_toArray, List.set_cons_succ, List.set_cons_zero]; go_big_quiet_on
    go_big_quiet_step (fail)
    go_big_quiet_step ((go_at_call 12; exact below_of (K6.out _)))
    go_big_quiet_want; refine quiet_load rfl rfl Lo ?_; simp only [Act.put, List.setIfInBounds_toArray, List.set_cons_succ, List.set_cons_zero]; go_big_quiet_on
    go_big_quiet_step (fail)
    go_big_quiet_step ((go_at_call 12; exact below_of (K7.out _)))
    go_big_quiet_step (fail)
    go_big_quiet_step (fail)
    go_big_quiet_step (fail)
    go_big_quiet_step (fail)
    go_big_quiet_step (fail)
    go_big_quiet_step (fail)
    go_big_quiet_step (fail)
    go_big_quiet_step (fail)
    refine wpQuiet_nil ?_
    rintro w5 ⟨s, rfl⟩
    replace B := bnext B s.2
    replace A := A.below s.2
    clear Lo
    generalize s.1 = W8 at *
    go_upto_region 10 with fail
    clear E0 E2 E3 E4 E5 E6 E7 E8 E9 E10 E11
    have E12 := F12.out
    have E13 := F13.out
    have E14 := F14.out
    have E15 := F15.out
    have E16 := F16.out
    have E17 := F17.out
    have E18 := F18.out
    have E19 := F19.out
    have E20 := F20.out
    have Lo := load_gb A
    refine region_below (by kernel_rfl) (by kernel_rfl) ?_
    go_big_quiet_want; refine quiet_load rfl rfl Lo ?_; simp only [Act.put, List.setIfInBounds_toArray, List.set_cons_succ, List.set_cons_zero]; go_big_quiet_on
    go_big_quiet_step (fail)
    go_big_quiet_step (fail)
    go_big_quiet_step (fail)
    go_big_quiet_step (fail)
    go_big_quiet_step ((go_at_call 13; exact below_of (K8.out _)))
    go_big_quiet_want; refine quiet_load rfl rfl Lo ?_; simp only [Act.put, List.setIfInBounds_toArray, List.set_cons_succ, List.set_cons_zero]; go_big_quiet_on
    go_big_quiet_step (fail)
    go_big_quiet_step ((go_at_call 13; exact below_of (K9.out _)))
    go_big_quiet_step (fail)
    go_big_quiet_step (fail)
    go_big_quiet_step (fail)
    go_big_quiet_step (fail)
    go_big_quiet_step (fail)
    go_big_quiet_step (fail)
    go_big_quiet_step (fail)
    go_big_quiet_step (fail)
    go_big_quiet_step (fail)
    go_big_quiet_step (fail)
    go_big_quiet_step (fail)
    go_big_quiet_step (fail)
    go_big_quiet_step (fail)
    go_big_quiet_step (fail)
    go_big_quiet_want; refine quiet_load rfl rfl Lo ?_; simp only [Act.put, List.setIfInBounds_toArray, List.set_cons_succ, List.set_cons_zero]; go_big_quiet_on
    go_big_quiet_step (fail)
    go_big_quiet_step ((go_at_call 14; exact below_of (K10.out _)))
    go_big_quiet_want; refine quiet_load rfl rfl Lo ?_; simp only [Act.put, List.setIfInBounds_toArray, List.set_cons_succ, List.set_cons_zero]; go_big_quiet_on
    go_big_quiet_step (fail)
    go_big_quiet_step ((go_at_call 14; exact below_of (K11.out _)))
    go_big_quiet_step (fail)
    go_big_quiet_step (fail)
    go_big_quiet_step (fail)
    go_big_quiet_step (fail)
    go_big_quiet_step (fail)
    go_big_quiet_step (fail)
    go_big_quiet_step (fail)
    go_big_quiet_want; refine quiet_load rfl rfl Lo ?_; simp only [Act.put, List.setIfInBounds_toArray, List.set_cons_succ, List.set_cons_zero]; go_big_quiet_on
    go_big_quiet_step (fail)
    go_big_quiet_step ((go_at_call 15; exact below_of (K12.out _)))
    go_big_quiet_want; refine quiet_load rfl rfl Lo ?_; simp only [Act.put, List.setIfInBounds_toArray, List.set_cons_succ, List.set_cons_zero]; go_big_quiet_on
    go_big_quiet_step (fail)
    go_big_quiet_step ((go_at_call 15; exact below_of (K13.out _)))
    go_big_quiet_step (fail)
    go_big_quiet_step (fail)
    go_big_quiet_step (fail)
    go_big_quiet_step (fail)
    go_big_quiet_step (fail)
    go_big_quiet_step (fail)
    refine wpQuiet_nil ?_
    rintro w5 ⟨s, rfl⟩
    replace B := bnext B s.2
    replace A := A.below s.2
    clear Lo
    generalize s.1 = W10 at *
    go_upto_region 12 with fail
    clear E1 E12 E13 E14 E15 E16 E17 E18 E19 E20
    have E21 := F21.out
    have E22 := F22.out
    have E23 := F23.out
    have E24 := F24.out
    have E25 := F25.out
    have E26 := F26.out
    have Lo := load_gb A
    refine region_below (by kernel_rfl) (by kernel_rfl) ?_
    go_big_quiet_want; refine quiet_load rfl rfl Lo ?_; simp only [Act.put, List.setIfInBounds_toArray, List.set_cons_succ, List.set_cons_zero]; go_big_quiet_on
    go_big_quiet_step (fail)
    go_big_quiet_step (fail)
    go_big_quiet_step ((go_at_call 16; exact below_of (K14.out _)))
    go_big_quiet_want; refine quiet_load rfl rfl Lo ?_; simp only [Act.put, List.setIfInBounds_toArray, List.set_cons_succ, List.set_cons_zero]; go_big_quiet_on
    go_big_quiet_step (fail)
    go_big_quiet_step ((go_at_call 16; exact below_of (K15.out _)))
    go_big_quiet_step (fail)
    go_big_quiet_step (fail)
    go_big_quiet_step (fail)
    go_big_quiet_step (fail)
    go_big_quiet_step (fail)
    go_big_quiet_step (fail)
    go_big_quiet_step (fail)
    go_big_quiet_step (fail)
    go_big_quiet_step (fail)
    go_big_quiet_want; refine quiet_load rfl rfl Lo ?_; simp only [Act.put, List.setIfInBounds_toArray, List.set_cons_succ, List.set_cons_zero]; go_big_quiet_on
    go_big_quiet_step (fail)
    go_big_quiet_step ((go_at_call 17; exact below_of (K16.out _)))
    go_big_quiet_want; refine quiet_load rfl rfl Lo ?_; simp only [Act.put, List.setIfInBounds_toArray, List.set_cons_succ, List.set_cons_zero]; go_big_quiet_on
    go_big_quiet_step (fail)
    go_big_quiet_step ((go_at_call 17; exact below_of (K17.out _)))
    go_big_quiet_step (fail)
    go_big_quiet_step (fail)
    go_big_quiet_step (fail)
    go_big_quiet_step (fail)
    go_big_quiet_step (fail)
    go_big_quiet_step (fail)
    go_big_quiet_step (fail)
    go_big_quiet_want; refine quiet_load rfl rfl Lo ?_; simp only [Act.put, List.setIfInBounds_toArray, List.set_cons_succ, List.set_cons_zero]; go_big_quiet_on
    go_big_quiet_step ((go_at_call 16; exact below_of (K18.out _)))
    go_big_quiet_want; refine quiet_load rfl rfl Lo ?_; simp only [Act.put, List.setIfInBounds_toArray, List.set_cons_succ, List.set_cons_zero]; go_big_quiet_on
    go_big_quiet_want; refine quiet_load rfl rfl Lo ?_; simp only [Act.put, List.setIfInBounds_toArray, List.set_cons_succ, List.set_cons_zero]; go_big_quiet_on
    go_big_quiet_step ((go_at_call 9; exact below_of (K19.out _)))
    go_big_quiet_step ((go_at_call 17; exact below_of (K20.out _)))
    go_big_quiet_step (fail)
    go_big_quiet_step (fail)
    go_big_quiet_step (fail)
    go_big_quiet_step (fail)
    go_big_quiet_step ((go_at_call 8; exact below_of (awake_any _)))
    go_big_quiet_step (fail)
    go_big_quiet_step (fail)
    refine wpQuiet_nil ?_
    rintro w5 ⟨s, rfl⟩
    replace B := bnext B s.2
    replace A := A.below s.2
    clear Lo
    generalize s.1 = W12 at *
    clear E21 E22 E23 E24 E25 E26
    go_wp2_with fail
    go_ret
    exact ⟨rfl, B⟩
end Go.Proofs.Ytjdmchfneaebpaa
