/- The law GeomRows answers true. Condition: the numbers fit their kinds. -/
import Derived.Test.YtjdmchfneaebpaaGr
namespace Go.Proofs.Ytjdmchfneaebpaa
open Go.RowKit
set_option linter.unusedVariables false

theorem atv_at (p q k : Int) (h0 : 0 ≤ k) (h1 : k < q - p) : atv p q k = p + k := by unfold atv; rw [if_neg (by omega)]
theorem inv_at (n k m : Int) (h0 : 0 ≤ n) (h1 : n ≤ 1073741824) (h2 : 0 ≤ k) (h3 : k < m) : inv n k m = n * m + k := by unfold inv; rw [if_neg (by omega)]
theorem wr {e d : Int} (h0 : -1000000000000 ≤ e) (h1 : e ≤ 1000000000000) (h : e = d) : IntKind.i64.wrap e = d := by rw [IntWalk.i64_in e (by omega)]; exact h

set_option maxRecDepth 100000 in
set_option maxHeartbeats 4000000 in
theorem rows_bad (n h t u cl sl a b : Int) (w : World) (hb : n < 1 ∨ 256 < n ∨ h < 1 ∨ 64 < h) :
    Calls Try.prog 3 #[.int .i64 n, .int .i64 h, .int .i64 t, .int .i64 u, .int .u8 cl, .int .u8 sl, .int .u16 a, .int .u16 b] w fun e w' => e = .returned (.bool true) ∧ Below w.heap.size w w' := by
    have HN := Lib.hid hb
    clear hb
    go_enter Try.func3, Try.ntmps3
    go_wp2_with fail
    refine (new_no n h _ HN.out).mono ?_
    rintro e w1 ⟨rfl, B⟩
    go_wp2_with (refine wpList_new_geo rfl (.tmp 17) (.tmp 27) rfl rfl 0 0 _ rfl ?_; intro W A BW; replace B := bnext B BW; clear BW A)
    refine (awake_any _).mono ?_
    rintro e w2 ⟨rfl, bb⟩
    go_wp2_with fail
    go_ret
    exact ⟨rfl, bnext B bb⟩

set_option maxRecDepth 100000 in
set_option maxHeartbeats 4000000 in
theorem rows_off (n h t u cl sl a b : Int) (w : World) (n0 : 1 ≤ n) (n1 : n ≤ 256) (h0 : 1 ≤ h) (h1' : h ≤ 64) (hb : t < 0 ∨ u < 0 ∨ h ≤ t ∨ h ≤ u) :
    Calls Try.prog 3 #[.int .i64 n, .int .i64 h, .int .i64 t, .int .i64 u, .int .u8 cl, .int .u8 sl, .int .u16 a, .int .u16 b] w fun e w' => e = .returned (.bool true) ∧ Below w.heap.size w w' := by
  by_cases k1 : t < 0
  · clear hb
    go_enter Try.func3, Try.ntmps3
    go_wp2_with fail
    refine (new_yes n h _ n0 n1 h0 h1').mono ?_
    rintro e w1 ⟨rfl, B⟩
    go_wp2_with (refine wpList_new_geo rfl (.tmp 17) (.tmp 27) rfl rfl n h _ rfl ?_; intro W A BW; replace B := bnext B BW; clear BW A)
    refine (awake_any _).mono ?_
    rintro e w2 ⟨rfl, bb⟩
    go_wp2_with fail
    go_ret
    exact ⟨rfl, bnext B bb⟩

  by_cases k2 : u < 0
  · clear hb
    go_enter Try.func3, Try.ntmps3
    go_wp2_with fail
    refine (new_yes n h _ n0 n1 h0 h1').mono ?_
    rintro e w1 ⟨rfl, B⟩
    go_wp2_with (refine wpList_new_geo rfl (.tmp 17) (.tmp 27) rfl rfl n h _ rfl ?_; intro W A BW; replace B := bnext B BW; clear BW A)
    refine (awake_any _).mono ?_
    rintro e w2 ⟨rfl, bb⟩
    go_wp2_with fail
    go_ret
    exact ⟨rfl, bnext B bb⟩

  by_cases k3 : h ≤ t
  · clear hb
    go_enter Try.func3, Try.ntmps3
    go_wp2_with fail
    refine (new_yes n h _ n0 n1 h0 h1').mono ?_
    rintro e w1 ⟨rfl, B⟩
    go_wp2_with (refine wpList_new_geo rfl (.tmp 17) (.tmp 27) rfl rfl n h _ rfl ?_; intro W A BW; replace B := bnext B BW; clear BW A)
    refine (awake_any _).mono ?_
    rintro e w2 ⟨rfl, bb⟩
    go_wp2_with fail
    go_ret
    exact ⟨rfl, bnext B bb⟩

  · have k4 : h ≤ u := by omega
    clear hb
    go_enter Try.func3, Try.ntmps3
    go_wp2_with fail
    refine (new_yes n h _ n0 n1 h0 h1').mono ?_
    rintro e w1 ⟨rfl, B⟩
    go_wp2_with (refine wpList_new_geo rfl (.tmp 17) (.tmp 27) rfl rfl n h _ rfl ?_; intro W A BW; replace B := bnext B BW; clear BW A)
    refine (awake_any _).mono ?_
    rintro e w2 ⟨rfl, bb⟩
    go_wp2_with fail
    go_ret
    exact ⟨rfl, bnext B bb⟩


set_option maxHeartbeats 4000000 in
theorem rows_walk (n h t u cl sl a b : Int) (w : World) (n2 : -9223372036854775808 ≤ n) (n3 : n ≤ 9223372036854775807) (h2 : -9223372036854775808 ≤ h) (h3 : h ≤ 9223372036854775807) (t2 : -9223372036854775808 ≤ t) (t3 : t ≤ 9223372036854775807) (u2 : -9223372036854775808 ≤ u) (u3 : u ≤ 9223372036854775807)
    (cl0 : 0 ≤ cl) (cl1 : cl ≤ 255) (sl0 : 0 ≤ sl) (sl1 : sl ≤ 255) (a0 : 0 ≤ a) (a1 : a ≤ 65535) (b0 : 0 ≤ b) (b1 : b ≤ 65535) :
    Calls Try.prog 3 #[.int .i64 n, .int .i64 h, .int .i64 t, .int .i64 u, .int .u8 cl, .int .u8 sl, .int .u16 a, .int .u16 b] w fun e w' => e = .returned (.bool true) ∧ Below w.heap.size w w' := by
  by_cases hno : n < 1 ∨ 256 < n ∨ h < 1 ∨ 64 < h
  · exact rows_bad n h t u cl sl a b w hno
  · have n0 : 1 ≤ n := by omega
    have n1 : n ≤ 256 := by omega
    have h0 : 1 ≤ h := by omega
    have h1' : h ≤ 64 := by omega
    by_cases hoff : t < 0 ∨ u < 0 ∨ h ≤ t ∨ h ≤ u
    · exact rows_off n h t u cl sl a b w n0 n1 h0 h1' hoff
    have t0 : 0 ≤ t := by omega
    have t1 : t < h := by omega
    have u0 : 0 ≤ u := by omega
    have u1 : u < h := by omega
    have c0 : 0 ≤ cl % 4 := by omega
    have c1 : cl % 4 < 4 := by omega
    have k0 : 0 ≤ sl % 8 := by omega
    have k1 : sl % 8 < 8 := by omega
    obtain ⟨y0, y1, y2, y3, y4, y5⟩ := nd_bounds n h (by omega) n1 (by omega) h1'
    have m0 : 1 ≤ ndI n h := by
      have : 1 * 1 ≤ h * (2 * h + 3) := Int.mul_le_mul h0 (by omega) (by omega) (by omega)
      unfold ndI; omega
    have m1 : ndI n h ≤ 100000 := by unfold ndI; omega
    have am0 : 0 ≤ a % ndI n h := Int.emod_nonneg _ (by omega)
    have am1 : a % ndI n h < ndI n h := Int.emod_lt_of_pos _ (by omega)
    have bm0 : 0 ≤ b % ndI n h := Int.emod_nonneg _ (by omega)
    have bm1 : b % ndI n h < ndI n h := Int.emod_lt_of_pos _ (by omega)
    have g6 := (bs_bd n h n0 n1 h0 h1' 6 (by omega))
    have g12 := (bs_bd n h n0 n1 h0 h1' 12 (by omega))
    have g13 := (bs_bd n h n0 n1 h0 h1' 13 (by omega))
    have g14 := (bs_bd n h n0 n1 h0 h1' 14 (by omega))
    have g15 := (bs_bd n h n0 n1 h0 h1' 15 (by omega))
    have g16 := (bs_bd n h n0 n1 h0 h1' 16 (by omega))
    have g17 := (bs_bd n h n0 n1 h0 h1' 17 (by omega))
    have g18 := (bs_bd n h n0 n1 h0 h1' 18 (by omega))
    have d6 : bs n h (6 + 1) = bs n h 6 + h := rfl
    have d12 : bs n h (12 + 1) = bs n h 12 + h * 4 * 2 := rfl
    have d13 : bs n h (13 + 1) = bs n h 13 + h * 4 := rfl
    have d14 : bs n h (14 + 1) = bs n h 14 + h * 2 := rfl
    have d15 : bs n h (15 + 1) = bs n h 15 + h := rfl
    have d16 : bs n h (16 + 1) = bs n h 16 + h * (2 * h + 2) := rfl
    have d17 : bs n h (17 + 1) = bs n h 17 + ndI n h := rfl
    have d18 : bs n h (18 + 1) = bs n h 18 + ndI n h * 8 := rfl
    have T0 : 0 ≤ t * (2 * h + 2) := Int.mul_nonneg t0 (by omega)
    have U0 : 0 ≤ u * (2 * h + 2) := Int.mul_nonneg u0 (by omega)
    have T1 : t * (2 * h + 2) + (2 * h + 2) ≤ h * (2 * h + 2) := by
      have : (t + 1) * (2 * h + 2) ≤ h * (2 * h + 2) := Int.mul_le_mul_of_nonneg_right (by omega) (by omega)
      rw [Int.add_mul, Int.one_mul] at this; exact this
    have U1 : u * (2 * h + 2) + (2 * h + 2) ≤ h * (2 * h + 2) := by
      have : (u + 1) * (2 * h + 2) ≤ h * (2 * h + 2) := Int.mul_le_mul_of_nonneg_right (by omega) (by omega)
      rw [Int.add_mul, Int.one_mul] at this; exact this
    have hmul : (2 * h + 2) * (t - u) = t * (2 * h + 2) - u * (2 * h + 2) := by
      rw [Int.mul_sub, Int.mul_comm (2 * h + 2) t, Int.mul_comm (2 * h + 2) u]
    have d18' : bs n h 18 = bs n h 17 + ndI n h := rfl
    have e_x1 : atv (bs n h 12) (bs n h (12 + 1)) (inv (inv t (cl % 4) 4) 0 2) = bs n h 12 + ((t * 4 + (cl % 4)) * 2 + 0) := by rw [inv_at t (cl % 4) 4 (by omega) (by omega) (by omega) (by omega), inv_at _ 0 2 (by omega) (by omega) (by omega) (by omega), atv_at _ _ _ (by omega) (by rw [d12]; omega)]
    have e_x2 : atv (bs n h 12) (bs n h (12 + 1)) (inv (inv u 0 4) 0 2) = bs n h 12 + ((u * 4 + 0) * 2 + 0) := by rw [inv_at u 0 4 (by omega) (by omega) (by omega) (by omega), inv_at _ 0 2 (by omega) (by omega) (by omega) (by omega), atv_at _ _ _ (by omega) (by rw [d12]; omega)]
    have e_x3 : atv (bs n h 12) (bs n h (12 + 1)) (inv (inv t (cl % 4) 4) 1 2) = bs n h 12 + ((t * 4 + (cl % 4)) * 2 + 1) := by rw [inv_at t (cl % 4) 4 (by omega) (by omega) (by omega) (by omega), inv_at _ 1 2 (by omega) (by omega) (by omega) (by omega), atv_at _ _ _ (by omega) (by rw [d12]; omega)]
    have e_h1 : atv (bs n h 13) (bs n h (13 + 1)) (inv t (cl % 4) 4) = bs n h 13 + (t * 4 + (cl % 4)) := by rw [inv_at _ _ _ (by omega) (by omega) (by omega) (by omega), atv_at _ _ _ (by omega) (by rw [d13]; omega)]
    have e_h2 : atv (bs n h 13) (bs n h (13 + 1)) (inv u 0 4) = bs n h 13 + (u * 4 + 0) := by rw [inv_at _ _ _ (by omega) (by omega) (by omega) (by omega), atv_at _ _ _ (by omega) (by rw [d13]; omega)]
    have e_z1 : atv (bs n h 14) (bs n h (14 + 1)) (inv t 1 2) = bs n h 14 + (t * 2 + 1) := by rw [inv_at _ _ _ (by omega) (by omega) (by omega) (by omega), atv_at _ _ _ (by omega) (by rw [d14]; omega)]
    have e_z2 : atv (bs n h 14) (bs n h (14 + 1)) (inv u 0 2) = bs n h 14 + (u * 2 + 0) := by rw [inv_at _ _ _ (by omega) (by omega) (by omega) (by omega), atv_at _ _ _ (by omega) (by rw [d14]; omega)]
    have e_r1 : atv (bs n h 16) (bs n h (16 + 1)) (inv t (2 * h + 1) (2 * h + 2)) = bs n h 16 + (t * (2 * h + 2) + (2 * h + 1)) := by rw [inv_at _ _ _ (by omega) (by omega) (by omega) (by omega), atv_at _ _ _ (by omega) (by rw [d16]; omega)]
    have e_r2 : atv (bs n h 16) (bs n h (16 + 1)) (inv u 0 (2 * h + 2)) = bs n h 16 + (u * (2 * h + 2) + 0) := by rw [inv_at _ _ _ (by omega) (by omega) (by omega) (by omega), atv_at _ _ _ (by omega) (by rw [d16]; omega)]
    have e_g1 : atv (bs n h 15) (bs n h (15 + 1)) (t) = bs n h 15 + (t) := by rw [atv_at _ _ _ (by omega) (by rw [d15]; omega)]
    have e_g2 : atv (bs n h 15) (bs n h (15 + 1)) (u) = bs n h 15 + (u) := by rw [atv_at _ _ _ (by omega) (by rw [d15]; omega)]
    have e_s1 : atv (bs n h 6) (bs n h (6 + 1)) (t) = bs n h 6 + (t) := by rw [atv_at _ _ _ (by omega) (by rw [d6]; omega)]
    have e_s2 : atv (bs n h 6) (bs n h (6 + 1)) (u) = bs n h 6 + (u) := by rw [atv_at _ _ _ (by omega) (by rw [d6]; omega)]
    have e_i1 : atv (bs n h 18) (bs n h (18 + 1)) (inv ((1 + a % ndI n h) - 1) (sl % 8) 8) = bs n h 18 + (((1 + a % ndI n h) - 1) * 8 + (sl % 8)) := by rw [inv_at _ _ _ (by omega) (by omega) (by omega) (by omega), atv_at _ _ _ (by omega) (by rw [d18]; omega)]
    have e_i2 : atv (bs n h 18) (bs n h (18 + 1)) (inv ((1 + b % ndI n h) - 1) 0 8) = bs n h 18 + (((1 + b % ndI n h) - 1) * 8 + 0) := by rw [inv_at _ _ _ (by omega) (by omega) (by omega) (by omega), atv_at _ _ _ (by omega) (by rw [d18]; omega)]
    have e_q1 : atv (bs n h 17) (bs n h (17 + 1)) (inv ((1 + a % ndI n h) - 1) 0 1) = bs n h 17 + (((1 + a % ndI n h) - 1) * 1 + 0) := by rw [inv_at _ _ _ (by omega) (by omega) (by omega) (by omega), atv_at _ _ _ (by omega) (by rw [d17]; omega)]
    have e_q2 : atv (bs n h 17) (bs n h (17 + 1)) (inv ((1 + b % ndI n h) - 1) 0 1) = bs n h 17 + (((1 + b % ndI n h) - 1) * 1 + 0) := by rw [inv_at _ _ _ (by omega) (by omega) (by omega) (by omega), atv_at _ _ _ (by omega) (by rw [d17]; omega)]
    have e_i3 : atv (bs n h 18) (bs n h (18 + 1)) (inv (1 - 1) 0 8) = bs n h 18 + ((1 - 1) * 8 + 0) := by rw [inv_at _ _ _ (by omega) (by omega) (by omega) (by omega), atv_at _ _ _ (by omega) (by rw [d18]; omega)]
    have e_q3 : atv (bs n h 17) (bs n h (17 + 1)) (inv ((ndI n h) - 1) 0 1) = bs n h 17 + (((ndI n h) - 1) * 1 + 0) := by rw [inv_at _ _ _ (by omega) (by omega) (by omega) (by omega), atv_at _ _ _ (by omega) (by rw [d17]; omega)]
    exact rows_main n h t u cl sl a b (cl % 4) (sl % 8) (1 + a % ndI n h) (1 + b % ndI n h) (ndI n h) (t - u) (8 * (t - u)) (2 * (cl % 4)) ((bs n h 12 + ((t * 4 + (cl % 4)) * 2 + 0)) - (bs n h 12 + ((u * 4 + 0) * 2 + 0))) (bs n h 12 + ((t * 4 + (cl % 4)) * 2 + 0)) (bs n h 12 + ((u * 4 + 0) * 2 + 0)) (bs n h 12 + ((t * 4 + (cl % 4)) * 2 + 1)) (bs n h 13 + (t * 4 + (cl % 4))) (bs n h 13 + (u * 4 + 0)) (4 * (t - u)) ((bs n h 13 + (t * 4 + (cl % 4))) - (bs n h 13 + (u * 4 + 0))) (bs n h 14 + (t * 2 + 1)) (bs n h 14 + (u * 2 + 0)) (2 * (t - u)) ((bs n h 14 + (t * 2 + 1)) - (bs n h 14 + (u * 2 + 0))) (2 * h) (2 * h + 1) (2 * h + 2) (bs n h 16 + (t * (2 * h + 2) + (2 * h + 1))) (bs n h 16 + (u * (2 * h + 2) + 0)) ((bs n h 16 + (t * (2 * h + 2) + (2 * h + 1))) - (bs n h 16 + (u * (2 * h + 2) + 0))) (t * (2 * h + 2) - u * (2 * h + 2)) (t * (2 * h + 2) - u * (2 * h + 2) + 2 * h) (bs n h 15 + (t)) (bs n h 15 + (u)) (bs n h 6 + (t)) (bs n h 6 + (u)) (bs n h 18 + (((1 + a % ndI n h) - 1) * 8 + (sl % 8))) (bs n h 18 + (((1 + b % ndI n h) - 1) * 8 + 0)) ((bs n h 18 + (((1 + a % ndI n h) - 1) * 8 + (sl % 8))) - (bs n h 18 + (((1 + b % ndI n h) - 1) * 8 + 0))) ((1 + a % ndI n h) - (1 + b % ndI n h)) (8 * ((1 + a % ndI n h) - (1 + b % ndI n h))) (bs n h 17 + (((1 + a % ndI n h) - 1) * 1 + 0)) (bs n h 17 + (((1 + b % ndI n h) - 1) * 1 + 0)) (bs n h 18 + ((1 - 1) * 8 + 0)) (bs n h 17 + (((ndI n h) - 1) * 1 + 0)) w n0 n1 h0 h1' t0 t1 u0 u1 cl0 cl1 sl0 sl1 a0 a1 b0 b1 rfl rfl m0 m1 am0 (by omega) bm0 (by omega) rfl rfl
      (wr (by omega) (by omega) (by omega))
      (wr (by omega) (by omega) (by omega))
      (wr (by omega) (by omega) (by omega))
      (wr (by omega) (by omega) (by omega))
      (wr (by omega) (by omega) (by omega))
      (wr (by omega) (by omega) (by omega))
      (wr (by omega) (by omega) (by omega))
      (wr (by omega) (by omega) (by omega))
      (wr (by omega) (by omega) (by omega))
      (wr (by omega) (by omega) (by omega))
      (wr (by omega) (by omega) (by omega))
      (wr (by omega) (by omega) (by omega))
      (wr (by omega) (by omega) (by omega))
      (wr (by omega) (by omega) (by omega))
      (wr (by omega) (by omega) (by omega))
      (wr (by omega) (by omega) (by omega))
      (by rw [hmul]; exact wr (by omega) (by omega) rfl)
      (wr (by omega) (by omega) (by omega))
      (wr (by omega) (by omega) (by omega))
      (wr (by omega) (by omega) (by omega))
      (wr (by omega) (by omega) (by omega))
      (wr (by omega) (by omega) (by omega))
      (wr (by omega) (by omega) (by omega))
      (wr (by omega) (by omega) (by omega))
      (wr (by omega) (by omega) (by omega))
      (wr (by omega) (by omega) (by omega))
      (wr (by omega) (by omega) (by omega))
      (fun w => by have hh := cache_any n h t (cl % 4) 0 (bs n h) w (bs_bd n h n0 n1 h0 h1' 12 (by omega)).1 (bs_bd n h n0 n1 h0 h1' 12 (by omega)).2 (bs_bd n h n0 n1 h0 h1' (12 + 1) (by omega)).1 (bs_bd n h n0 n1 h0 h1' (12 + 1) (by omega)).2; rw [e_x1] at hh; exact hh)
      (fun w => by have hh := cache_any n h u 0 0 (bs n h) w (bs_bd n h n0 n1 h0 h1' 12 (by omega)).1 (bs_bd n h n0 n1 h0 h1' 12 (by omega)).2 (bs_bd n h n0 n1 h0 h1' (12 + 1) (by omega)).1 (bs_bd n h n0 n1 h0 h1' (12 + 1) (by omega)).2; rw [e_x2] at hh; exact hh)
      (fun w => by have hh := cache_any n h t (cl % 4) 1 (bs n h) w (bs_bd n h n0 n1 h0 h1' 12 (by omega)).1 (bs_bd n h n0 n1 h0 h1' 12 (by omega)).2 (bs_bd n h n0 n1 h0 h1' (12 + 1) (by omega)).1 (bs_bd n h n0 n1 h0 h1' (12 + 1) (by omega)).2; rw [e_x3] at hh; exact hh)
      (fun w => by have hh := head_any n h t (cl % 4) (bs n h) w (bs_bd n h n0 n1 h0 h1' 13 (by omega)).1 (bs_bd n h n0 n1 h0 h1' 13 (by omega)).2 (bs_bd n h n0 n1 h0 h1' (13 + 1) (by omega)).1 (bs_bd n h n0 n1 h0 h1' (13 + 1) (by omega)).2; rw [e_h1] at hh; exact hh)
      (fun w => by have hh := head_any n h u 0 (bs n h) w (bs_bd n h n0 n1 h0 h1' 13 (by omega)).1 (bs_bd n h n0 n1 h0 h1' 13 (by omega)).2 (bs_bd n h n0 n1 h0 h1' (13 + 1) (by omega)).1 (bs_bd n h n0 n1 h0 h1' (13 + 1) (by omega)).2; rw [e_h2] at hh; exact hh)
      (fun w => by have hh := hazard_any n h t 1 (bs n h) w (bs_bd n h n0 n1 h0 h1' 14 (by omega)).1 (bs_bd n h n0 n1 h0 h1' 14 (by omega)).2 (bs_bd n h n0 n1 h0 h1' (14 + 1) (by omega)).1 (bs_bd n h n0 n1 h0 h1' (14 + 1) (by omega)).2; rw [e_z1] at hh; exact hh)
      (fun w => by have hh := hazard_any n h u 0 (bs n h) w (bs_bd n h n0 n1 h0 h1' 14 (by omega)).1 (bs_bd n h n0 n1 h0 h1' 14 (by omega)).2 (bs_bd n h n0 n1 h0 h1' (14 + 1) (by omega)).1 (bs_bd n h n0 n1 h0 h1' (14 + 1) (by omega)).2; rw [e_z2] at hh; exact hh)
      (fun w => by have hh := retired_any n h t (2 * h + 1) (bs n h) w (by omega) h1' (bs_bd n h n0 n1 h0 h1' 16 (by omega)).1 (bs_bd n h n0 n1 h0 h1' 16 (by omega)).2 (bs_bd n h n0 n1 h0 h1' (16 + 1) (by omega)).1 (bs_bd n h n0 n1 h0 h1' (16 + 1) (by omega)).2; rw [e_r1] at hh; exact hh)
      (fun w => by have hh := retired_any n h u 0 (bs n h) w (by omega) h1' (bs_bd n h n0 n1 h0 h1' 16 (by omega)).1 (bs_bd n h n0 n1 h0 h1' 16 (by omega)).2 (bs_bd n h n0 n1 h0 h1' (16 + 1) (by omega)).1 (bs_bd n h n0 n1 h0 h1' (16 + 1) (by omega)).2; rw [e_r2] at hh; exact hh)
      (fun w => by have hh := gone_any n h t (bs n h) w (bs_bd n h n0 n1 h0 h1' 15 (by omega)).1 (bs_bd n h n0 n1 h0 h1' 15 (by omega)).2 (bs_bd n h n0 n1 h0 h1' (15 + 1) (by omega)).1 (bs_bd n h n0 n1 h0 h1' (15 + 1) (by omega)).2; rw [e_g1] at hh; exact hh)
      (fun w => by have hh := gone_any n h u (bs n h) w (bs_bd n h n0 n1 h0 h1' 15 (by omega)).1 (bs_bd n h n0 n1 h0 h1' 15 (by omega)).2 (bs_bd n h n0 n1 h0 h1' (15 + 1) (by omega)).1 (bs_bd n h n0 n1 h0 h1' (15 + 1) (by omega)).2; rw [e_g2] at hh; exact hh)
      (fun w => by have hh := serial_any n h t (bs n h) w (bs_bd n h n0 n1 h0 h1' 6 (by omega)).1 (bs_bd n h n0 n1 h0 h1' 6 (by omega)).2 (bs_bd n h n0 n1 h0 h1' (6 + 1) (by omega)).1 (bs_bd n h n0 n1 h0 h1' (6 + 1) (by omega)).2; rw [e_s1] at hh; exact hh)
      (fun w => by have hh := serial_any n h u (bs n h) w (bs_bd n h n0 n1 h0 h1' 6 (by omega)).1 (bs_bd n h n0 n1 h0 h1' 6 (by omega)).2 (bs_bd n h n0 n1 h0 h1' (6 + 1) (by omega)).1 (bs_bd n h n0 n1 h0 h1' (6 + 1) (by omega)).2; rw [e_s2] at hh; exact hh)
      (fun w => by have hh := item_any n h (1 + a % ndI n h) (sl % 8) (bs n h) w (by omega) (by omega) (bs_bd n h n0 n1 h0 h1' 18 (by omega)).1 (bs_bd n h n0 n1 h0 h1' 18 (by omega)).2 (bs_bd n h n0 n1 h0 h1' (18 + 1) (by omega)).1 (bs_bd n h n0 n1 h0 h1' (18 + 1) (by omega)).2; rw [e_i1] at hh; exact hh)
      (fun w => by have hh := item_any n h (1 + b % ndI n h) 0 (bs n h) w (by omega) (by omega) (bs_bd n h n0 n1 h0 h1' 18 (by omega)).1 (bs_bd n h n0 n1 h0 h1' 18 (by omega)).2 (bs_bd n h n0 n1 h0 h1' (18 + 1) (by omega)).1 (bs_bd n h n0 n1 h0 h1' (18 + 1) (by omega)).2; rw [e_i2] at hh; exact hh)
      (fun w => by have hh := next_any n h (1 + a % ndI n h) (bs n h) w (by omega) (by omega) (bs_bd n h n0 n1 h0 h1' 17 (by omega)).1 (bs_bd n h n0 n1 h0 h1' 17 (by omega)).2 (bs_bd n h n0 n1 h0 h1' (17 + 1) (by omega)).1 (bs_bd n h n0 n1 h0 h1' (17 + 1) (by omega)).2; rw [e_q1] at hh; exact hh)
      (fun w => by have hh := next_any n h (1 + b % ndI n h) (bs n h) w (by omega) (by omega) (bs_bd n h n0 n1 h0 h1' 17 (by omega)).1 (bs_bd n h n0 n1 h0 h1' 17 (by omega)).2 (bs_bd n h n0 n1 h0 h1' (17 + 1) (by omega)).1 (bs_bd n h n0 n1 h0 h1' (17 + 1) (by omega)).2; rw [e_q2] at hh; exact hh)
      (fun w => by have hh := item_any n h 1 0 (bs n h) w (by omega) (by omega) (bs_bd n h n0 n1 h0 h1' 18 (by omega)).1 (bs_bd n h n0 n1 h0 h1' 18 (by omega)).2 (bs_bd n h n0 n1 h0 h1' (18 + 1) (by omega)).1 (bs_bd n h n0 n1 h0 h1' (18 + 1) (by omega)).2; rw [e_i3] at hh; exact hh)
      (fun w => nodes_any n h (bs n h) w n0 n1 (by omega) h1')
      (fun w => by have hh := next_any n h (ndI n h) (bs n h) w (by omega) (by omega) (bs_bd n h n0 n1 h0 h1' 17 (by omega)).1 (bs_bd n h n0 n1 h0 h1' 17 (by omega)).2 (bs_bd n h n0 n1 h0 h1' (17 + 1) (by omega)).1 (bs_bd n h n0 n1 h0 h1' (17 + 1) (by omega)).2; rw [e_q3] at hh; exact hh)
end Go.Proofs.Ytjdmchfneaebpaa
