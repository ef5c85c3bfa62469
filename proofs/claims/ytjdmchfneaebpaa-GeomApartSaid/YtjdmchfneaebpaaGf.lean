/- Geom.Next and Geom.Item at whatever numbers; what the words of a geometry are bounded by. Condition: the numbers fit their kinds. -/
import Derived.Test.YtjdmchfneaebpaaGe
namespace Go.Proofs.Ytjdmchfneaebpaa
open Go.RowKit
set_option linter.unusedVariables false

set_option maxHeartbeats 1000000 in
theorem next_min (n t : Int) (c : Nat → Int) (w : World) (p0 : 0 ≤ c 17) (p1 : c 17 ≤ 1000000) (q0 : 0 ≤ c 18) (q1 : c 18 ≤ 1000000) :
    Calls Try.prog 17 #[.agg (gb n t c), .int .i64 (-9223372036854775808)] w fun e w' => e = .returned (.int .i64 (-1)) ∧ Below w.heap.size w w' := by
  have e1 : inv 9223372036854775807 0 1 = -1 := by unfold inv; rw [if_pos (by omega)]
  have e2 : atv (c 17) (c 18) (-1) = -1 := by unfold atv; rw [if_pos (by omega)]
  have Hi := Lib.hid (fun w => in_any 9223372036854775807 0 1 w (by omega) (by omega))
  have Hk := Lib.hid (fun w => at_17 n t (-1) c w p0 p1 q0 q1)
  rw [e1] at Hi
  rw [e2] at Hk
  have wr : IntKind.i64.wrap (-9223372036854775809) = 9223372036854775807 := by decide
  have wr2 : IntKind.i64.wrap (-9223372036854775808 - 1) = 9223372036854775807 := by decide
  go_enter Try.func17, Try.ntmps17
  go_wp2_with fail
  generalize hW : World.alloc w _ = W
  have hB : Below w.heap.size w W := hW ▸ (Below.refl _ w).alloc (Nat.le_refl _) _
  have A : At W w.heap.size (gb n t c) 25 := hW ▸ At.last w _ 25
  clear hW
  have Lo := load_gb A
  clear A
  refine region_below (by kernel_rfl) (by kernel_rfl) ?_
  repeat (first | (go_big_quiet_want; refine quiet_load rfl rfl Lo ?_; simp only [Act.put, List.setIfInBounds_toArray, List.set_cons_succ, List.set_cons_zero]; go_big_quiet_on) | go_big_quiet_step (first | (go_at_call 32; exact below_same (Hi.out _)) | (go_at_call 33; exact below_of (Hk.out _))))
  refine wpQuiet_nil ?_
  rintro w5 ⟨s, rfl⟩
  go_wp2_with fail
  go_ret
  exact ⟨rfl, bnext hB s.2⟩
theorem next_all (n t a : Int) (c : Nat → Int) (w : World) (a0 : -9223372036854775808 ≤ a) (a1 : a ≤ 9223372036854775807) (p0 : 0 ≤ c 17) (p1 : c 17 ≤ 1000000) (q0 : 0 ≤ c 18) (q1 : c 18 ≤ 1000000) :
    Calls Try.prog 17 #[.agg (gb n t c), .int .i64 a] w fun e w' => e = .returned (.int .i64 (atv (c 17) (c 18) (inv (a - 1) 0 1))) ∧ Below w.heap.size w w' := by
  by_cases h : a = -9223372036854775808
  · subst h
    have e1 : inv (-9223372036854775808 - 1) 0 1 = -1 := by unfold inv; rw [if_pos (by omega)]
    have e2 : atv (c 17) (c 18) (-1) = -1 := by unfold atv; rw [if_pos (by omega)]
    rw [e1, e2]
    exact next_min n t c w p0 p1 q0 q1
  · exact next_any n t a c w (by omega) a1 p0 p1 q0 q1
set_option maxHeartbeats 1000000 in
theorem item_min (n t : Int) (b : Int) (c : Nat → Int) (w : World) (p0 : 0 ≤ c 18) (p1 : c 18 ≤ 1000000) (q0 : 0 ≤ c 19) (q1 : c 19 ≤ 1000000) :
    Calls Try.prog 16 #[.agg (gb n t c), .int .i64 (-9223372036854775808), .int .i64 b] w fun e w' => e = .returned (.int .i64 (-1)) ∧ Below w.heap.size w w' := by
  have e1 : inv 9223372036854775807 b 8 = -1 := by unfold inv; rw [if_pos (by omega)]
  have e2 : atv (c 18) (c 19) (-1) = -1 := by unfold atv; rw [if_pos (by omega)]
  have Hi := Lib.hid (fun w => in_any 9223372036854775807 b 8 w (by omega) (by omega))
  have Hk := Lib.hid (fun w => at_18 n t (-1) c w p0 p1 q0 q1)
  rw [e1] at Hi
  rw [e2] at Hk
  have wr : IntKind.i64.wrap (-9223372036854775809) = 9223372036854775807 := by decide
  have wr2 : IntKind.i64.wrap (-9223372036854775808 - 1) = 9223372036854775807 := by decide
  go_enter Try.func16, Try.ntmps16
  go_wp2_with fail
  generalize hW : World.alloc w _ = W
  have hB : Below w.heap.size w W := hW ▸ (Below.refl _ w).alloc (Nat.le_refl _) _
  have A : At W w.heap.size (gb n t c) 25 := hW ▸ At.last w _ 25
  clear hW
  have Lo := load_gb A
  clear A
  refine region_below (by kernel_rfl) (by kernel_rfl) ?_
  repeat (first | (go_big_quiet_want; refine quiet_load rfl rfl Lo ?_; simp only [Act.put, List.setIfInBounds_toArray, List.set_cons_succ, List.set_cons_zero]; go_big_quiet_on) | go_big_quiet_step (first | (go_at_call 32; exact below_same (Hi.out _)) | (go_at_call 33; exact below_of (Hk.out _))))
  refine wpQuiet_nil ?_
  rintro w5 ⟨s, rfl⟩
  go_wp2_with fail
  go_ret
  exact ⟨rfl, bnext hB s.2⟩
theorem item_all (n t a : Int) (b : Int) (c : Nat → Int) (w : World) (a0 : -9223372036854775808 ≤ a) (a1 : a ≤ 9223372036854775807) (p0 : 0 ≤ c 18) (p1 : c 18 ≤ 1000000) (q0 : 0 ≤ c 19) (q1 : c 19 ≤ 1000000) :
    Calls Try.prog 16 #[.agg (gb n t c), .int .i64 a, .int .i64 b] w fun e w' => e = .returned (.int .i64 (atv (c 18) (c 19) (inv (a - 1) b 8))) ∧ Below w.heap.size w w' := by
  by_cases h : a = -9223372036854775808
  · subst h
    have e1 : inv (-9223372036854775808 - 1) b 8 = -1 := by unfold inv; rw [if_pos (by omega)]
    have e2 : atv (c 18) (c 19) (-1) = -1 := by unfold atv; rw [if_pos (by omega)]
    rw [e1, e2]
    exact item_min n t b c w p0 p1 q0 q1
  · exact item_any n t a b c w (by omega) a1 p0 p1 q0 q1

theorem szs_nonneg (n t : Int) (n0 : 1 ≤ n) (n1 : n ≤ 256) (t0 : 1 ≤ t) (t1 : t ≤ 64) (k : Nat) : 0 ≤ szs n t k := by
  obtain ⟨a0, a1, b0, b1, c0, c1⟩ := nd_bounds n t (by omega) n1 (by omega) t1
  have hm : 0 ≤ ndI n t := by unfold ndI; omega
  by_cases h : k < 19
  · generalize hq : t * (2 * t + 2) = q at *
    rcases (show k = 0 ∨ k = 1 ∨ k = 2 ∨ k = 3 ∨ k = 4 ∨ k = 5 ∨ k = 6 ∨ k = 7 ∨ k = 8 ∨ k = 9 ∨ k = 10 ∨ k = 11 ∨ k = 12 ∨ k = 13 ∨ k = 14 ∨ k = 15 ∨ k = 16 ∨ k = 17 ∨ k = 18 by omega) with rfl | rfl | rfl | rfl | rfl | rfl | rfl | rfl | rfl | rfl | rfl | rfl | rfl | rfl | rfl | rfl | rfl | rfl | rfl <;> simp [szs] <;> omega
  · unfold szs
    rw [List.getD_eq_getElem?_getD, List.getElem?_eq_none (by simp; omega)]
    exact Int.le_refl 0
theorem bs_mono (n t : Int) (n0 : 1 ≤ n) (n1 : n ≤ 256) (t0 : 1 ≤ t) (t1 : t ≤ 64) (i j : Nat) (h : i ≤ j) : bs n t i ≤ bs n t j := by
  induction j with
  | zero =>
    have e : i = 0 := by omega
    rw [e]; exact Int.le_refl _
  | succ j ih =>
    by_cases hi : i = j + 1
    · subst hi; exact Int.le_refl _
    · have := ih (by omega)
      have h2 := szs_nonneg n t n0 n1 t0 t1 j
      show _ ≤ bs n t j + szs n t j
      omega
theorem atv_in (p q k W : Int) (p0 : 0 ≤ p) (h : q ≤ W) (w0 : 0 < W) : -1 ≤ atv p q k ∧ atv p q k < W := by
  unfold atv
  by_cases h1 : k < 0 ∨ q - p ≤ k
  · rw [if_pos h1]; omega
  · rw [if_neg h1]; omega
theorem atv_neg (p q k : Int) (h : k < 0) : atv p q k = -1 := by unfold atv; rw [if_pos (Or.inl h)]
theorem inv_neg (n k m : Int) (h : n < 0) : inv n k m = -1 := by unfold inv; rw [if_pos (Or.inl h)]
theorem inv_neg2 (n k m : Int) (h : k < 0) : inv n k m = -1 := by unfold inv; rw [if_pos (by omega)]

/-- the words that the law asks -/
def vI (n t a b d : Int) (k : Nat) : Int := ([atv (bs n t 2) (bs n t (2 + 1)) (a), atv (bs n t 3) (bs n t (3 + 1)) (a), atv (bs n t 5) (bs n t (5 + 1)) (a), atv (bs n t 6) (bs n t (6 + 1)) (a), atv (bs n t 7) (bs n t (7 + 1)) (a), atv (bs n t 8) (bs n t (8 + 1)) (a), atv (bs n t 9) (bs n t (9 + 1)) (a), atv (bs n t 10) (bs n t (10 + 1)) (a), atv (bs n t 11) (bs n t (11 + 1)) (a), atv (bs n t 12) (bs n t (12 + 1)) (inv (inv a b 4) d 2), atv (bs n t 13) (bs n t (13 + 1)) (inv a b 4), atv (bs n t 14) (bs n t (14 + 1)) (inv a b 2), atv (bs n t 15) (bs n t (15 + 1)) (a), atv (bs n t 16) (bs n t (16 + 1)) (inv a b (2 * t + 2)), atv (bs n t 17) (bs n t (17 + 1)) (inv (a - 1) 0 1), atv (bs n t 18) (bs n t (18 + 1)) (inv (a - 1) b 8)] : List Int).getD k 0
def vA (n t a b d : Int) : Array Value := #[.int .i64 (vI n t a b d 0), .int .i64 (vI n t a b d 1), .int .i64 (vI n t a b d 2), .int .i64 (vI n t a b d 3), .int .i64 (vI n t a b d 4), .int .i64 (vI n t a b d 5), .int .i64 (vI n t a b d 6), .int .i64 (vI n t a b d 7), .int .i64 (vI n t a b d 8), .int .i64 (vI n t a b d 9), .int .i64 (vI n t a b d 10), .int .i64 (vI n t a b d 11), .int .i64 (vI n t a b d 12), .int .i64 (vI n t a b d 13), .int .i64 (vI n t a b d 14), .int .i64 (vI n t a b d 15)]
theorem vA_get (n t a b d : Int) (k : Nat) (h : k < 16) : (vA n t a b d)[k]? = some (.int .i64 (vI n t a b d k)) := by
  rcases (show k = 0 ∨ k = 1 ∨ k = 2 ∨ k = 3 ∨ k = 4 ∨ k = 5 ∨ k = 6 ∨ k = 7 ∨ k = 8 ∨ k = 9 ∨ k = 10 ∨ k = 11 ∨ k = 12 ∨ k = 13 ∨ k = 14 ∨ k = 15 by omega) with rfl | rfl | rfl | rfl | rfl | rfl | rfl | rfl | rfl | rfl | rfl | rfl | rfl | rfl | rfl | rfl <;> rfl
theorem vI_ok (n t a b d : Int) (n0 : 1 ≤ n) (n1 : n ≤ 256) (t0 : 1 ≤ t) (t1 : t ≤ 64) (k : Nat) (h : k < 16) : (-1 ≤ vI n t a b d k ∧ vI n t a b d k < bs n t 19) ∧ (a < 0 → vI n t a b d k = -1) := by
  have B := fun r h => (bs_bd n t n0 n1 t0 t1 r h).1
  have Mo := fun r h => bs_mono n t n0 n1 t0 t1 r 19 h
  have w0 : 0 < bs n t 19 := by
    have := bs_mono n t n0 n1 t0 t1 1 19 (by omega)
    have e : bs n t 1 = 1 := rfl
    omega
  rcases (show k = 0 ∨ k = 1 ∨ k = 2 ∨ k = 3 ∨ k = 4 ∨ k = 5 ∨ k = 6 ∨ k = 7 ∨ k = 8 ∨ k = 9 ∨ k = 10 ∨ k = 11 ∨ k = 12 ∨ k = 13 ∨ k = 14 ∨ k = 15 by omega) with rfl | rfl | rfl | rfl | rfl | rfl | rfl | rfl | rfl | rfl | rfl | rfl | rfl | rfl | rfl | rfl
  · exact ⟨atv_in _ _ _ _ (B 2 (by omega)) (Mo (2 + 1) (by omega)) w0, fun h => atv_neg _ _ _ (h)⟩
  · exact ⟨atv_in _ _ _ _ (B 3 (by omega)) (Mo (3 + 1) (by omega)) w0, fun h => atv_neg _ _ _ (h)⟩
  · exact ⟨atv_in _ _ _ _ (B 5 (by omega)) (Mo (5 + 1) (by omega)) w0, fun h => atv_neg _ _ _ (h)⟩
  · exact ⟨atv_in _ _ _ _ (B 6 (by omega)) (Mo (6 + 1) (by omega)) w0, fun h => atv_neg _ _ _ (h)⟩
  · exact ⟨atv_in _ _ _ _ (B 7 (by omega)) (Mo (7 + 1) (by omega)) w0, fun h => atv_neg _ _ _ (h)⟩
  · exact ⟨atv_in _ _ _ _ (B 8 (by omega)) (Mo (8 + 1) (by omega)) w0, fun h => atv_neg _ _ _ (h)⟩
  · exact ⟨atv_in _ _ _ _ (B 9 (by omega)) (Mo (9 + 1) (by omega)) w0, fun h => atv_neg _ _ _ (h)⟩
  · exact ⟨atv_in _ _ _ _ (B 10 (by omega)) (Mo (10 + 1) (by omega)) w0, fun h => atv_neg _ _ _ (h)⟩
  · exact ⟨atv_in _ _ _ _ (B 11 (by omega)) (Mo (11 + 1) (by omega)) w0, fun h => atv_neg _ _ _ (h)⟩
  · exact ⟨atv_in _ _ _ _ (B 12 (by omega)) (Mo (12 + 1) (by omega)) w0, fun h => atv_neg _ _ _ (by rw [inv_neg a b 4 h, inv_neg _ _ _ (by decide)]; decide)⟩
  · exact ⟨atv_in _ _ _ _ (B 13 (by omega)) (Mo (13 + 1) (by omega)) w0, fun h => atv_neg _ _ _ (by rw [inv_neg a b 4 h]; decide)⟩
  · exact ⟨atv_in _ _ _ _ (B 14 (by omega)) (Mo (14 + 1) (by omega)) w0, fun h => atv_neg _ _ _ (by rw [inv_neg a b 2 h]; decide)⟩
  · exact ⟨atv_in _ _ _ _ (B 15 (by omega)) (Mo (15 + 1) (by omega)) w0, fun h => atv_neg _ _ _ (h)⟩
  · exact ⟨atv_in _ _ _ _ (B 16 (by omega)) (Mo (16 + 1) (by omega)) w0, fun h => atv_neg _ _ _ (by rw [inv_neg a b _ h]; decide)⟩
  · exact ⟨atv_in _ _ _ _ (B 17 (by omega)) (Mo (17 + 1) (by omega)) w0, fun h => atv_neg _ _ _ (by rw [inv_neg (a - 1) _ _ (by omega)]; decide)⟩
  · exact ⟨atv_in _ _ _ _ (B 18 (by omega)) (Mo (18 + 1) (by omega)) w0, fun h => atv_neg _ _ _ (by rw [inv_neg (a - 1) _ _ (by omega)]; decide)⟩
theorem v_count (n t a b d : Int) (n0 : 1 ≤ n) (n1 : n ≤ 256) (t0 : 1 ≤ t) (t1 : t ≤ 64) (w : World) :
    Calls Try.prog 18 #[.agg (gb n t (bs n t)), .int .i64 a] w fun e w' => e = .returned (.int .i64 (vI n t a b d 0)) ∧ Below w.heap.size w w' :=
  count_any n t a (bs n t) w (bs_bd n t n0 n1 t0 t1 2 (by omega)).1 (bs_bd n t n0 n1 t0 t1 2 (by omega)).2 (bs_bd n t n0 n1 t0 t1 (2 + 1) (by omega)).1 (bs_bd n t n0 n1 t0 t1 (2 + 1) (by omega)).2
theorem v_bin (n t a b d : Int) (n0 : 1 ≤ n) (n1 : n ≤ 256) (t0 : 1 ≤ t) (t1 : t ≤ 64) (w : World) :
    Calls Try.prog 19 #[.agg (gb n t (bs n t)), .int .i64 a] w fun e w' => e = .returned (.int .i64 (vI n t a b d 1)) ∧ Below w.heap.size w w' :=
  bin_any n t a (bs n t) w (bs_bd n t n0 n1 t0 t1 3 (by omega)).1 (bs_bd n t n0 n1 t0 t1 3 (by omega)).2 (bs_bd n t n0 n1 t0 t1 (3 + 1) (by omega)).1 (bs_bd n t n0 n1 t0 t1 (3 + 1) (by omega)).2
theorem v_adds (n t a b d : Int) (n0 : 1 ≤ n) (n1 : n ≤ 256) (t0 : 1 ≤ t) (t1 : t ≤ 64) (w : World) :
    Calls Try.prog 20 #[.agg (gb n t (bs n t)), .int .i64 a] w fun e w' => e = .returned (.int .i64 (vI n t a b d 2)) ∧ Below w.heap.size w w' :=
  adds_any n t a (bs n t) w (bs_bd n t n0 n1 t0 t1 5 (by omega)).1 (bs_bd n t n0 n1 t0 t1 5 (by omega)).2 (bs_bd n t n0 n1 t0 t1 (5 + 1) (by omega)).1 (bs_bd n t n0 n1 t0 t1 (5 + 1) (by omega)).2
theorem v_serial (n t a b d : Int) (n0 : 1 ≤ n) (n1 : n ≤ 256) (t0 : 1 ≤ t) (t1 : t ≤ 64) (w : World) :
    Calls Try.prog 15 #[.agg (gb n t (bs n t)), .int .i64 a] w fun e w' => e = .returned (.int .i64 (vI n t a b d 3)) ∧ Below w.heap.size w w' :=
  serial_any n t a (bs n t) w (bs_bd n t n0 n1 t0 t1 6 (by omega)).1 (bs_bd n t n0 n1 t0 t1 6 (by omega)).2 (bs_bd n t n0 n1 t0 t1 (6 + 1) (by omega)).1 (bs_bd n t n0 n1 t0 t1 (6 + 1) (by omega)).2
theorem v_page (n t a b d : Int) (n0 : 1 ≤ n) (n1 : n ≤ 256) (t0 : 1 ≤ t) (t1 : t ≤ 64) (w : World) :
    Calls Try.prog 21 #[.agg (gb n t (bs n t)), .int .i64 a] w fun e w' => e = .returned (.int .i64 (vI n t a b d 4)) ∧ Below w.heap.size w w' :=
  page_any n t a (bs n t) w (bs_bd n t n0 n1 t0 t1 7 (by omega)).1 (bs_bd n t n0 n1 t0 t1 7 (by omega)).2 (bs_bd n t n0 n1 t0 t1 (7 + 1) (by omega)).1 (bs_bd n t n0 n1 t0 t1 (7 + 1) (by omega)).2
theorem v_bits (n t a b d : Int) (n0 : 1 ≤ n) (n1 : n ≤ 256) (t0 : 1 ≤ t) (t1 : t ≤ 64) (w : World) :
    Calls Try.prog 22 #[.agg (gb n t (bs n t)), .int .i64 a] w fun e w' => e = .returned (.int .i64 (vI n t a b d 5)) ∧ Below w.heap.size w w' :=
  bits_any n t a (bs n t) w (bs_bd n t n0 n1 t0 t1 8 (by omega)).1 (bs_bd n t n0 n1 t0 t1 8 (by omega)).2 (bs_bd n t n0 n1 t0 t1 (8 + 1) (by omega)).1 (bs_bd n t n0 n1 t0 t1 (8 + 1) (by omega)).2
theorem v_remote (n t a b d : Int) (n0 : 1 ≤ n) (n1 : n ≤ 256) (t0 : 1 ≤ t) (t1 : t ≤ 64) (w : World) :
    Calls Try.prog 23 #[.agg (gb n t (bs n t)), .int .i64 a] w fun e w' => e = .returned (.int .i64 (vI n t a b d 6)) ∧ Below w.heap.size w w' :=
  remote_any n t a (bs n t) w (bs_bd n t n0 n1 t0 t1 9 (by omega)).1 (bs_bd n t n0 n1 t0 t1 9 (by omega)).2 (bs_bd n t n0 n1 t0 t1 (9 + 1) (by omega)).1 (bs_bd n t n0 n1 t0 t1 (9 + 1) (by omega)).2
theorem v_link (n t a b d : Int) (n0 : 1 ≤ n) (n1 : n ≤ 256) (t0 : 1 ≤ t) (t1 : t ≤ 64) (w : World) :
    Calls Try.prog 24 #[.agg (gb n t (bs n t)), .int .i64 a] w fun e w' => e = .returned (.int .i64 (vI n t a b d 7)) ∧ Below w.heap.size w w' :=
  link_any n t a (bs n t) w (bs_bd n t n0 n1 t0 t1 10 (by omega)).1 (bs_bd n t n0 n1 t0 t1 10 (by omega)).2 (bs_bd n t n0 n1 t0 t1 (10 + 1) (by omega)).1 (bs_bd n t n0 n1 t0 t1 (10 + 1) (by omega)).2
theorem v_state (n t a b d : Int) (n0 : 1 ≤ n) (n1 : n ≤ 256) (t0 : 1 ≤ t) (t1 : t ≤ 64) (w : World) :
    Calls Try.prog 25 #[.agg (gb n t (bs n t)), .int .i64 a] w fun e w' => e = .returned (.int .i64 (vI n t a b d 8)) ∧ Below w.heap.size w w' :=
  state_any n t a (bs n t) w (bs_bd n t n0 n1 t0 t1 11 (by omega)).1 (bs_bd n t n0 n1 t0 t1 11 (by omega)).2 (bs_bd n t n0 n1 t0 t1 (11 + 1) (by omega)).1 (bs_bd n t n0 n1 t0 t1 (11 + 1) (by omega)).2
theorem v_cache (n t a b d : Int) (n0 : 1 ≤ n) (n1 : n ≤ 256) (t0 : 1 ≤ t) (t1 : t ≤ 64) (w : World) :
    Calls Try.prog 10 #[.agg (gb n t (bs n t)), .int .i64 a, .int .i64 b, .int .i64 d] w fun e w' => e = .returned (.int .i64 (vI n t a b d 9)) ∧ Below w.heap.size w w' :=
  cache_any n t a b d (bs n t) w (bs_bd n t n0 n1 t0 t1 12 (by omega)).1 (bs_bd n t n0 n1 t0 t1 12 (by omega)).2 (bs_bd n t n0 n1 t0 t1 (12 + 1) (by omega)).1 (bs_bd n t n0 n1 t0 t1 (12 + 1) (by omega)).2
theorem v_head (n t a b d : Int) (n0 : 1 ≤ n) (n1 : n ≤ 256) (t0 : 1 ≤ t) (t1 : t ≤ 64) (w : World) :
    Calls Try.prog 11 #[.agg (gb n t (bs n t)), .int .i64 a, .int .i64 b] w fun e w' => e = .returned (.int .i64 (vI n t a b d 10)) ∧ Below w.heap.size w w' :=
  head_any n t a b (bs n t) w (bs_bd n t n0 n1 t0 t1 13 (by omega)).1 (bs_bd n t n0 n1 t0 t1 13 (by omega)).2 (bs_bd n t n0 n1 t0 t1 (13 + 1) (by omega)).1 (bs_bd n t n0 n1 t0 t1 (13 + 1) (by omega)).2
theorem v_hazard (n t a b d : Int) (n0 : 1 ≤ n) (n1 : n ≤ 256) (t0 : 1 ≤ t) (t1 : t ≤ 64) (w : World) :
    Calls Try.prog 12 #[.agg (gb n t (bs n t)), .int .i64 a, .int .i64 b] w fun e w' => e = .returned (.int .i64 (vI n t a b d 11)) ∧ Below w.heap.size w w' :=
  hazard_any n t a b (bs n t) w (bs_bd n t n0 n1 t0 t1 14 (by omega)).1 (bs_bd n t n0 n1 t0 t1 14 (by omega)).2 (bs_bd n t n0 n1 t0 t1 (14 + 1) (by omega)).1 (bs_bd n t n0 n1 t0 t1 (14 + 1) (by omega)).2
theorem v_gone (n t a b d : Int) (n0 : 1 ≤ n) (n1 : n ≤ 256) (t0 : 1 ≤ t) (t1 : t ≤ 64) (w : World) :
    Calls Try.prog 14 #[.agg (gb n t (bs n t)), .int .i64 a] w fun e w' => e = .returned (.int .i64 (vI n t a b d 12)) ∧ Below w.heap.size w w' :=
  gone_any n t a (bs n t) w (bs_bd n t n0 n1 t0 t1 15 (by omega)).1 (bs_bd n t n0 n1 t0 t1 15 (by omega)).2 (bs_bd n t n0 n1 t0 t1 (15 + 1) (by omega)).1 (bs_bd n t n0 n1 t0 t1 (15 + 1) (by omega)).2
theorem v_retired (n t a b d : Int) (n0 : 1 ≤ n) (n1 : n ≤ 256) (t0 : 1 ≤ t) (t1 : t ≤ 64) (w : World) :
    Calls Try.prog 13 #[.agg (gb n t (bs n t)), .int .i64 a, .int .i64 b] w fun e w' => e = .returned (.int .i64 (vI n t a b d 13)) ∧ Below w.heap.size w w' :=
  retired_any n t a b (bs n t) w (by omega) t1 (bs_bd n t n0 n1 t0 t1 16 (by omega)).1 (bs_bd n t n0 n1 t0 t1 16 (by omega)).2 (bs_bd n t n0 n1 t0 t1 (16 + 1) (by omega)).1 (bs_bd n t n0 n1 t0 t1 (16 + 1) (by omega)).2
theorem v_next (n t a b d : Int) (n0 : 1 ≤ n) (n1 : n ≤ 256) (t0 : 1 ≤ t) (t1 : t ≤ 64) (a0 : -9223372036854775808 ≤ a) (a1 : a ≤ 9223372036854775807) (w : World) :
    Calls Try.prog 17 #[.agg (gb n t (bs n t)), .int .i64 a] w fun e w' => e = .returned (.int .i64 (vI n t a b d 14)) ∧ Below w.heap.size w w' :=
  next_all n t a (bs n t) w a0 a1 (bs_bd n t n0 n1 t0 t1 17 (by omega)).1 (bs_bd n t n0 n1 t0 t1 17 (by omega)).2 (bs_bd n t n0 n1 t0 t1 (17 + 1) (by omega)).1 (bs_bd n t n0 n1 t0 t1 (17 + 1) (by omega)).2
theorem v_item (n t a b d : Int) (n0 : 1 ≤ n) (n1 : n ≤ 256) (t0 : 1 ≤ t) (t1 : t ≤ 64) (a0 : -9223372036854775808 ≤ a) (a1 : a ≤ 9223372036854775807) (w : World) :
    Calls Try.prog 16 #[.agg (gb n t (bs n t)), .int .i64 a, .int .i64 b] w fun e w' => e = .returned (.int .i64 (vI n t a b d 15)) ∧ Below w.heap.size w w' :=
  item_all n t a b (bs n t) w a0 a1 (bs_bd n t n0 n1 t0 t1 18 (by omega)).1 (bs_bd n t n0 n1 t0 t1 18 (by omega)).2 (bs_bd n t n0 n1 t0 t1 (18 + 1) (by omega)).1 (bs_bd n t n0 n1 t0 t1 (18 + 1) (by omega)).2
end Go.Proofs.Ytjdmchfneaebpaa
