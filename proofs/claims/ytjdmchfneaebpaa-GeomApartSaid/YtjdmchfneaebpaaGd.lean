/- The geometry's methods at one page and one thread, and the law's awake. No condition. -/
import Derived.Test.YtjdmchfneaebpaaGo
namespace Go.Proofs.Ytjdmchfneaebpaa
open Go.RowKit
set_option linter.unusedVariables false

/-- a geometry is loaded, guarded or not -/
theorem wpList_load_geo {ops : Array Oper} {rest : List Oper} {o : Oper} {a : Act} {w : World} {Q : Exit → Act → World → Prop} (hw : Region.wanted o (yielded ops a.tmps) = true) (x : Operand) (ho : o.op = .load 25 x)
    (g : Nat) (hx : a.eval x = .pointer (some ⟨g, 0, none⟩)) (n t : Int) (c : Nat → Int) (hg : At w g (gb n t c) 25)
    (h : wpList Try.prog ops Q rest (a.put o.dst (.agg (gb n t c))) w) : wpList Try.prog ops Q (o :: rest) a w :=
  wpList_step fun K hK => by
    rw [if_pos hw]
    exact wp_load_row 25 x ho g hx 25 (gb n t c) (0, 0) _ hg Try.underlying25 rfl info_gb (hK _ _ h)

theorem k_item_13_7 (w : World) : Calls Try.prog 16 #[.agg (gb 1 1 (bs 1 1)), .int .i64 (13), .int .i64 (7)] w fun e w' => e = .returned (.int .i64 (176)) ∧ Below w.heap.size w w' := by
  have h := item_any 1 1 (13) (7) (bs 1 1) w (by decide) (by decide) (by decide) (by decide) (by decide) (by decide)
  have e : atv (bs 1 1 18) (bs 1 1 (18 + 1)) (inv (13 - 1) (7) 8) = 176 := by decide
  rw [e] at h
  exact h
theorem k_state_0 (w : World) : Calls Try.prog 25 #[.agg (gb 1 1 (bs 1 1)), .int .i64 (0)] w fun e w' => e = .returned (.int .i64 (33)) ∧ Below w.heap.size w w' := by
  have h := state_any 1 1 (0) (bs 1 1) w (by decide) (by decide) (by decide) (by decide)
  have e : atv (bs 1 1 11) (bs 1 1 (11 + 1)) ((0)) = 33 := by decide
  rw [e] at h
  exact h
theorem k_cache_0_3_1 (w : World) : Calls Try.prog 10 #[.agg (gb 1 1 (bs 1 1)), .int .i64 (0), .int .i64 (3), .int .i64 (1)] w fun e w' => e = .returned (.int .i64 (48)) ∧ Below w.heap.size w w' := by
  have h := cache_any 1 1 (0) (3) (1) (bs 1 1) w (by decide) (by decide) (by decide) (by decide)
  have e : atv (bs 1 1 12) (bs 1 1 (12 + 1)) (inv (inv (0) (3) 4) (1) 2) = 48 := by decide
  rw [e] at h
  exact h
theorem k_page_1 (w : World) : Calls Try.prog 21 #[.agg (gb 1 1 (bs 1 1)), .int .i64 (1)] w fun e w' => e = .returned (.int .i64 (-1)) ∧ Below w.heap.size w w' := by
  have h := page_any 1 1 (1) (bs 1 1) w (by decide) (by decide) (by decide) (by decide)
  have e : atv (bs 1 1 7) (bs 1 1 (7 + 1)) ((1)) = -1 := by decide
  rw [e] at h
  exact h
theorem k_lock_ (w : World) : Calls Try.prog 27 #[.agg (gb 1 1 (bs 1 1))] w fun e w' => e = .returned (.int .i64 (0)) ∧ Below w.heap.size w w' := by
  have h := lock_any 1 1  (bs 1 1) w (by decide) (by decide) (by decide) (by decide)
  have e : atv (bs 1 1 0) (bs 1 1 (0 + 1)) (0) = 0 := by decide
  rw [e] at h
  exact h
theorem k_epoch_ (w : World) : Calls Try.prog 28 #[.agg (gb 1 1 (bs 1 1))] w fun e w' => e = .returned (.int .i64 (1)) ∧ Below w.heap.size w w' := by
  have h := epoch_any 1 1  (bs 1 1) w (by decide) (by decide) (by decide) (by decide)
  have e : atv (bs 1 1 1) (bs 1 1 (1 + 1)) (0) = 1 := by decide
  rw [e] at h
  exact h
theorem k_count_4 (w : World) : Calls Try.prog 18 #[.agg (gb 1 1 (bs 1 1)), .int .i64 (4)] w fun e w' => e = .returned (.int .i64 (6)) ∧ Below w.heap.size w w' := by
  have h := count_any 1 1 (4) (bs 1 1) w (by decide) (by decide) (by decide) (by decide)
  have e : atv (bs 1 1 2) (bs 1 1 (2 + 1)) ((4)) = 6 := by decide
  rw [e] at h
  exact h
theorem k_bin_0 (w : World) : Calls Try.prog 19 #[.agg (gb 1 1 (bs 1 1)), .int .i64 (0)] w fun e w' => e = .returned (.int .i64 (7)) ∧ Below w.heap.size w w' := by
  have h := bin_any 1 1 (0) (bs 1 1) w (by decide) (by decide) (by decide) (by decide)
  have e : atv (bs 1 1 3) (bs 1 1 (3 + 1)) ((0)) = 7 := by decide
  rw [e] at h
  exact h
theorem k_pool_ (w : World) : Calls Try.prog 29 #[.agg (gb 1 1 (bs 1 1))] w fun e w' => e = .returned (.int .i64 (16)) ∧ Below w.heap.size w w' := by
  have h := pool_any 1 1  (bs 1 1) w (by decide) (by decide) (by decide) (by decide)
  have e : atv (bs 1 1 4) (bs 1 1 (4 + 1)) (0) = 16 := by decide
  rw [e] at h
  exact h
theorem k_adds_3 (w : World) : Calls Try.prog 20 #[.agg (gb 1 1 (bs 1 1)), .int .i64 (3)] w fun e w' => e = .returned (.int .i64 (20)) ∧ Below w.heap.size w w' := by
  have h := adds_any 1 1 (3) (bs 1 1) w (by decide) (by decide) (by decide) (by decide)
  have e : atv (bs 1 1 5) (bs 1 1 (5 + 1)) ((3)) = 20 := by decide
  rw [e] at h
  exact h
theorem k_serial_0 (w : World) : Calls Try.prog 15 #[.agg (gb 1 1 (bs 1 1)), .int .i64 (0)] w fun e w' => e = .returned (.int .i64 (21)) ∧ Below w.heap.size w w' := by
  have h := serial_any 1 1 (0) (bs 1 1) w (by decide) (by decide) (by decide) (by decide)
  have e : atv (bs 1 1 6) (bs 1 1 (6 + 1)) ((0)) = 21 := by decide
  rw [e] at h
  exact h
theorem k_page_0 (w : World) : Calls Try.prog 21 #[.agg (gb 1 1 (bs 1 1)), .int .i64 (0)] w fun e w' => e = .returned (.int .i64 (22)) ∧ Below w.heap.size w w' := by
  have h := page_any 1 1 (0) (bs 1 1) w (by decide) (by decide) (by decide) (by decide)
  have e : atv (bs 1 1 7) (bs 1 1 (7 + 1)) ((0)) = 22 := by decide
  rw [e] at h
  exact h
theorem k_bits_0 (w : World) : Calls Try.prog 22 #[.agg (gb 1 1 (bs 1 1)), .int .i64 (0)] w fun e w' => e = .returned (.int .i64 (23)) ∧ Below w.heap.size w w' := by
  have h := bits_any 1 1 (0) (bs 1 1) w (by decide) (by decide) (by decide) (by decide)
  have e : atv (bs 1 1 8) (bs 1 1 (8 + 1)) ((0)) = 23 := by decide
  rw [e] at h
  exact h
theorem k_remote_0 (w : World) : Calls Try.prog 23 #[.agg (gb 1 1 (bs 1 1)), .int .i64 (0)] w fun e w' => e = .returned (.int .i64 (24)) ∧ Below w.heap.size w w' := by
  have h := remote_any 1 1 (0) (bs 1 1) w (by decide) (by decide) (by decide) (by decide)
  have e : atv (bs 1 1 9) (bs 1 1 (9 + 1)) ((0)) = 24 := by decide
  rw [e] at h
  exact h
theorem k_link_7 (w : World) : Calls Try.prog 24 #[.agg (gb 1 1 (bs 1 1)), .int .i64 (7)] w fun e w' => e = .returned (.int .i64 (32)) ∧ Below w.heap.size w w' := by
  have h := link_any 1 1 (7) (bs 1 1) w (by decide) (by decide) (by decide) (by decide)
  have e : atv (bs 1 1 10) (bs 1 1 (10 + 1)) ((7)) = 32 := by decide
  rw [e] at h
  exact h
theorem k_head_0_0 (w : World) : Calls Try.prog 11 #[.agg (gb 1 1 (bs 1 1)), .int .i64 (0), .int .i64 (0)] w fun e w' => e = .returned (.int .i64 (49)) ∧ Below w.heap.size w w' := by
  have h := head_any 1 1 (0) (0) (bs 1 1) w (by decide) (by decide) (by decide) (by decide)
  have e : atv (bs 1 1 13) (bs 1 1 (13 + 1)) (inv (0) (0) 4) = 49 := by decide
  rw [e] at h
  exact h
theorem k_hazard_0_1 (w : World) : Calls Try.prog 12 #[.agg (gb 1 1 (bs 1 1)), .int .i64 (0), .int .i64 (1)] w fun e w' => e = .returned (.int .i64 (54)) ∧ Below w.heap.size w w' := by
  have h := hazard_any 1 1 (0) (1) (bs 1 1) w (by decide) (by decide) (by decide) (by decide)
  have e : atv (bs 1 1 14) (bs 1 1 (14 + 1)) (inv (0) (1) 2) = 54 := by decide
  rw [e] at h
  exact h
theorem k_gone_0 (w : World) : Calls Try.prog 14 #[.agg (gb 1 1 (bs 1 1)), .int .i64 (0)] w fun e w' => e = .returned (.int .i64 (55)) ∧ Below w.heap.size w w' := by
  have h := gone_any 1 1 (0) (bs 1 1) w (by decide) (by decide) (by decide) (by decide)
  have e : atv (bs 1 1 15) (bs 1 1 (15 + 1)) ((0)) = 55 := by decide
  rw [e] at h
  exact h
theorem k_retired_0_3 (w : World) : Calls Try.prog 13 #[.agg (gb 1 1 (bs 1 1)), .int .i64 (0), .int .i64 (3)] w fun e w' => e = .returned (.int .i64 (59)) ∧ Below w.heap.size w w' := by
  have h := retired_any 1 1 (0) (3) (bs 1 1) w (by decide) (by decide) (by decide) (by decide) (by decide) (by decide)
  have e : atv (bs 1 1 16) (bs 1 1 (16 + 1)) (inv (0) (3) (2 * 1 + 2)) = 59 := by decide
  rw [e] at h
  exact h
theorem k_next_1 (w : World) : Calls Try.prog 17 #[.agg (gb 1 1 (bs 1 1)), .int .i64 (1)] w fun e w' => e = .returned (.int .i64 (60)) ∧ Below w.heap.size w w' := by
  have h := next_any 1 1 (1) (bs 1 1) w (by decide) (by decide) (by decide) (by decide) (by decide) (by decide)
  have e : atv (bs 1 1 17) (bs 1 1 (17 + 1)) (inv (1 - 1) 0 1) = 60 := by decide
  rw [e] at h
  exact h
theorem k_count_5 (w : World) : Calls Try.prog 18 #[.agg (gb 1 1 (bs 1 1)), .int .i64 (5)] w fun e w' => e = .returned (.int .i64 (-1)) ∧ Below w.heap.size w w' := by
  have h := count_any 1 1 (5) (bs 1 1) w (by decide) (by decide) (by decide) (by decide)
  have e : atv (bs 1 1 2) (bs 1 1 (2 + 1)) ((5)) = -1 := by decide
  rw [e] at h
  exact h
theorem k_next_0 (w : World) : Calls Try.prog 17 #[.agg (gb 1 1 (bs 1 1)), .int .i64 (0)] w fun e w' => e = .returned (.int .i64 (-1)) ∧ Below w.heap.size w w' := by
  have h := next_any 1 1 (0) (bs 1 1) w (by decide) (by decide) (by decide) (by decide) (by decide) (by decide)
  have e : atv (bs 1 1 17) (bs 1 1 (17 + 1)) (inv (0 - 1) 0 1) = -1 := by decide
  rw [e] at h
  exact h
theorem k_item_14_0 (w : World) : Calls Try.prog 16 #[.agg (gb 1 1 (bs 1 1)), .int .i64 (14), .int .i64 (0)] w fun e w' => e = .returned (.int .i64 (-1)) ∧ Below w.heap.size w w' := by
  have h := item_any 1 1 (14) (0) (bs 1 1) w (by decide) (by decide) (by decide) (by decide) (by decide) (by decide)
  have e : atv (bs 1 1 18) (bs 1 1 (18 + 1)) (inv (14 - 1) (0) 8) = -1 := by decide
  rw [e] at h
  exact h
theorem k_cache_0_4_0 (w : World) : Calls Try.prog 10 #[.agg (gb 1 1 (bs 1 1)), .int .i64 (0), .int .i64 (4), .int .i64 (0)] w fun e w' => e = .returned (.int .i64 (-1)) ∧ Below w.heap.size w w' := by
  have h := cache_any 1 1 (0) (4) (0) (bs 1 1) w (by decide) (by decide) (by decide) (by decide)
  have e : atv (bs 1 1 12) (bs 1 1 (12 + 1)) (inv (inv (0) (4) 4) (0) 2) = -1 := by decide
  rw [e] at h
  exact h
theorem k_cache_m1_4_0 (w : World) : Calls Try.prog 10 #[.agg (gb 1 1 (bs 1 1)), .int .i64 (-1), .int .i64 (4), .int .i64 (0)] w fun e w' => e = .returned (.int .i64 (-1)) ∧ Below w.heap.size w w' := by
  have h := cache_any 1 1 (-1) (4) (0) (bs 1 1) w (by decide) (by decide) (by decide) (by decide)
  have e : atv (bs 1 1 12) (bs 1 1 (12 + 1)) (inv (inv (-1) (4) 4) (0) 2) = -1 := by decide
  rw [e] at h
  exact h
theorem k_count_m1 (w : World) : Calls Try.prog 18 #[.agg (gb 1 1 (bs 1 1)), .int .i64 (-1)] w fun e w' => e = .returned (.int .i64 (-1)) ∧ Below w.heap.size w w' := by
  have h := count_any 1 1 (-1) (bs 1 1) w (by decide) (by decide) (by decide) (by decide)
  have e : atv (bs 1 1 2) (bs 1 1 (2 + 1)) ((-1)) = -1 := by decide
  rw [e] at h
  exact h
theorem k_nodes (w : World) : Calls Try.prog 9 #[.agg (gb 1 1 (bs 1 1))] w fun e w' => e = .returned (.int .i64 13) ∧ Below w.heap.size w w' := nodes_any 1 1 _ w (by decide) (by decide) (by decide) (by decide)
theorem k_words (w : World) : Calls Try.prog 26 #[.agg (gb 1 1 (bs 1 1))] w fun e w' => e = .returned (.int .i64 177) ∧ Below w.heap.size w w' := by
  have h := words_any 1 1 (bs 1 1) w
  have e : bs 1 1 19 = 177 := by decide
  rw [e] at h
  exact h

set_option maxHeartbeats 1000000 in
theorem awake_any (w : World) : Calls Try.prog 8 #[] w fun e w' => e = .returned (.bool true) ∧ Below w.heap.size w w' := by
  go_enter Try.func8, Try.ntmps8
  go_wp2_with fail
  refine (new_yes 1 1 _ (by decide) (by decide) (by decide) (by decide)).mono ?_
  rintro e w1 ⟨rfl, B⟩
  have hr : (w1.alloc (.cells (gb 0 0 (fun _ => 0)) 25)).heap[w1.heap.size]? = some (.cells (gb 0 0 (fun _ => 0)) 25 (0, 0)) := heap_alloc_new _ _
  go_wp2_with (first
    | (refine wpList_store_row rfl 25 (.tmp 1) (.tmp 5) rfl _ (gb 1 1 (bs 1 1)) rfl rfl 25 _ hr info_gb rfl (one_gb _ _ _) ?_; (generalize hW : World.setRow _ _ _ = W); have A : At W w1.heap.size (gb 1 1 (bs 1 1)) 25 := hW ▸ setRow_heap _ _ _ _ _ _ hr; have B : Below w.heap.size w W := hW ▸ below_setRow (B.alloc B.size _) B.size _; clear hW hr)
    | (refine wpList_load_geo (by rfl) (.tmp 1) rfl _ rfl 1 1 _ A ?_))
  refine (k_nodes _).mono ?_
  rintro e y0 ⟨rfl, b⟩
  replace A := A.below b
  replace B := bnext B b
  clear b
  go_wp2_with (refine wpList_load_geo (by rfl) (.tmp 1) rfl _ rfl 1 1 _ A ?_)
  refine (k_words _).mono ?_
  rintro e y1 ⟨rfl, b⟩
  replace A := A.below b
  replace B := bnext B b
  clear b
  go_wp2_with (refine wpList_load_geo (by rfl) (.tmp 1) rfl _ rfl 1 1 _ A ?_)
  refine (k_item_13_7 _).mono ?_
  rintro e y2 ⟨rfl, b⟩
  replace A := A.below b
  replace B := bnext B b
  clear b
  go_wp2_with (refine wpList_load_geo (by rfl) (.tmp 1) rfl _ rfl 1 1 _ A ?_)
  refine (k_state_0 _).mono ?_
  rintro e y3 ⟨rfl, b⟩
  replace A := A.below b
  replace B := bnext B b
  clear b
  go_wp2_with (refine wpList_load_geo (by rfl) (.tmp 1) rfl _ rfl 1 1 _ A ?_)
  refine (k_cache_0_3_1 _).mono ?_
  rintro e y4 ⟨rfl, b⟩
  replace A := A.below b
  replace B := bnext B b
  clear b
  go_wp2_with (refine wpList_load_geo (by rfl) (.tmp 1) rfl _ rfl 1 1 _ A ?_)
  refine (k_page_1 _).mono ?_
  rintro e y5 ⟨rfl, b⟩
  replace A := A.below b
  replace B := bnext B b
  clear b
  go_wp2_with (refine wpList_load_geo (by rfl) (.tmp 1) rfl _ rfl 1 1 _ A ?_)
  go_ret
  exact ⟨rfl, B⟩
end Go.Proofs.Ytjdmchfneaebpaa
