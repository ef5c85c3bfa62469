/- The law GeomKnown answers true. No condition. -/
import Derived.Test.YtjdmchfneaebpaaGd
import Derived.Outline
namespace Go.Proofs.Ytjdmchfneaebpaa
open Go.RowKit
set_option linter.unusedVariables false

theorem wpList_new_geo {ops : Array Oper} {rest : List Oper} {o : Oper} {a : Act} {w : World} {Q : Exit → Act → World → Prop} (hgd : o.guard = none) (x y : Operand) (ho : o.op = .store 25 x y)
    (hx : a.eval x = .pointer (some ⟨w.heap.size, 0, none⟩)) (n t : Int) (c : Nat → Int) (hy : a.eval y = .agg (gb n t c))
    (h : ∀ W, At W w.heap.size (gb n t c) 25 → Below w.heap.size w W → wpList Try.prog ops Q rest (a.put o.dst undef) W) : wpList Try.prog ops Q (o :: rest) a (w.alloc (.cells (gb 0 0 (fun _ => 0)) 25)) := by
  have hr : (w.alloc (.cells (gb 0 0 (fun _ => 0)) 25)).heap[w.heap.size]? = some (.cells (gb 0 0 (fun _ => 0)) 25 (0, 0)) := heap_alloc_new _ _
  exact wpList_store_row hgd 25 x y ho w.heap.size (gb n t c) hx hy 25 _ hr info_gb rfl (one_gb _ _ _) (h _ (setRow_heap _ _ _ _ _ _ hr) (below_setRow ((Below.refl _ w).alloc (Nat.le_refl _) _) (Nat.le_refl _) _))

def wants : Array Value := #[.int .i64 (0), .int .i64 (1), .int .i64 (6), .int .i64 (7), .int .i64 (16), .int .i64 (20), .int .i64 (21), .int .i64 (22), .int .i64 (23), .int .i64 (24), .int .i64 (32), .int .i64 (33), .int .i64 (48), .int .i64 (49), .int .i64 (54), .int .i64 (55), .int .i64 (59), .int .i64 (60), .int .i64 (176), .int .i64 (-1), .int .i64 (-1), .int .i64 (-1), .int .i64 (-1), .int .i64 (-1), .int .i64 (-1), .int .i64 (-1)]
def wantI (k : Nat) : Int := ([0, 1, 6, 7, 16, 20, 21, 22, 23, 24, 32, 33, 48, 49, 54, 55, 59, 60, 176, -1, -1, -1, -1, -1, -1, -1] : List Int).getD k 0
theorem wants_get (k : Nat) (h : k < 26) : wants[k]? = some (.int .i64 (wantI k)) := by
  rcases (show k = 0 ∨ k = 1 ∨ k = 2 ∨ k = 3 ∨ k = 4 ∨ k = 5 ∨ k = 6 ∨ k = 7 ∨ k = 8 ∨ k = 9 ∨ k = 10 ∨ k = 11 ∨ k = 12 ∨ k = 13 ∨ k = 14 ∨ k = 15 ∨ k = 16 ∨ k = 17 ∨ k = 18 ∨ k = 19 ∨ k = 20 ∨ k = 21 ∨ k = 22 ∨ k = 23 ∨ k = 24 ∨ k = 25 by omega) with rfl | rfl | rfl | rfl | rfl | rfl | rfl | rfl | rfl | rfl | rfl | rfl | rfl | rfl | rfl | rfl | rfl | rfl | rfl | rfl | rfl | rfl | rfl | rfl | rfl | rfl <;> rfl
theorem z_lock (w : World) : Calls Try.prog 27 #[.agg (gb 0 0 (fun _ => 0))] w fun e w' => e = .returned (.int .i64 (-1)) ∧ Below w.heap.size w w' := lock_any 0 0 (fun _ => 0) w (by decide) (by decide) (by decide) (by decide)
theorem z_item (w : World) : Calls Try.prog 16 #[.agg (gb 0 0 (fun _ => 0)), .int .i64 1, .int .i64 0] w fun e w' => e = .returned (.int .i64 (-1)) ∧ Below w.heap.size w w' := item_any 0 0 1 0 (fun _ => 0) w (by decide) (by decide) (by decide) (by decide) (by decide) (by decide)
theorem z_words (w : World) : Calls Try.prog 26 #[.agg (gb 0 0 (fun _ => 0))] w fun e w' => e = .returned (.int .i64 0) ∧ Below w.heap.size w w' := words_any 0 0 (fun _ => 0) w

set_option maxRecDepth 100000 in
set_option maxHeartbeats 4000000 in
theorem known_walk (w : World) : Calls Try.prog 5 #[] w fun e w' => e = .returned (.bool true) ∧ Below w.heap.size w w' := by
  go_enter Try.func5, Try.ntmps5
  go_wp2_with fail
  refine (new_yes 1 1 _ (by decide) (by decide) (by decide) (by decide)).mono ?_
  rintro e w1 ⟨rfl, B⟩
  go_wp2_with (refine wpList_new_geo rfl (.tmp 1) (.tmp 17) rfl rfl 1 1 _ rfl ?_; intro W A BW; have B := bnext B BW; clear BW)
  have Lo := load_gb A
  refine tail_below 52 (by kernel_rfl) (by kernel_rfl) ?_
  simp only [List.take_succ_cons, List.take_zero, List.drop_succ_cons, List.drop_zero]
  go_big_quiet_want; refine quiet_load rfl rfl Lo ?_; simp only [Act.put, List.setIfInBounds_toArray, List.set_cons_succ, List.set_cons_zero]; go_big_quiet_on
  go_big_quiet_step ((go_at_call 27; exact below_of (k_lock_ _)))
  go_big_quiet_want; refine quiet_load rfl rfl Lo ?_; simp only [Act.put, List.setIfInBounds_toArray, List.set_cons_succ, List.set_cons_zero]; go_big_quiet_on
  go_big_quiet_step ((go_at_call 28; exact below_of (k_epoch_ _)))
  go_big_quiet_want; refine quiet_load rfl rfl Lo ?_; simp only [Act.put, List.setIfInBounds_toArray, List.set_cons_succ, List.set_cons_zero]; go_big_quiet_on
  go_big_quiet_step ((go_at_call 18; exact below_of (k_count_4 _)))
  go_big_quiet_want; refine quiet_load rfl rfl Lo ?_; simp only [Act.put, List.setIfInBounds_toArray, List.set_cons_succ, List.set_cons_zero]; go_big_quiet_on
  go_big_quiet_step ((go_at_call 19; exact below_of (k_bin_0 _)))
  go_big_quiet_want; refine quiet_load rfl rfl Lo ?_; simp only [Act.put, List.setIfInBounds_toArray, List.set_cons_succ, List.set_cons_zero]; go_big_quiet_on
  go_big_quiet_step ((go_at_call 29; exact below_of (k_pool_ _)))
  go_big_quiet_want; refine quiet_load rfl rfl Lo ?_; simp only [Act.put, List.setIfInBounds_toArray, List.set_cons_succ, List.set_cons_zero]; go_big_quiet_on
  go_big_quiet_step ((go_at_call 20; exact below_of (k_adds_3 _)))
  go_big_quiet_want; refine quiet_load rfl rfl Lo ?_; simp only [Act.put, List.setIfInBounds_toArray, List.set_cons_succ, List.set_cons_zero]; go_big_quiet_on
  go_big_quiet_step ((go_at_call 15; exact below_of (k_serial_0 _)))
  go_big_quiet_want; refine quiet_load rfl rfl Lo ?_; simp only [Act.put, List.setIfInBounds_toArray, List.set_cons_succ, List.set_cons_zero]; go_big_quiet_on
  go_big_quiet_step ((go_at_call 21; exact below_of (k_page_0 _)))
  go_big_quiet_want; refine quiet_load rfl rfl Lo ?_; simp only [Act.put, List.setIfInBounds_toArray, List.set_cons_succ, List.set_cons_zero]; go_big_quiet_on
  go_big_quiet_step ((go_at_call 22; exact below_of (k_bits_0 _)))
  go_big_quiet_want; refine quiet_load rfl rfl Lo ?_; simp only [Act.put, List.setIfInBounds_toArray, List.set_cons_succ, List.set_cons_zero]; go_big_quiet_on
  go_big_quiet_step ((go_at_call 23; exact below_of (k_remote_0 _)))
  go_big_quiet_want; refine quiet_load rfl rfl Lo ?_; simp only [Act.put, List.setIfInBounds_toArray, List.set_cons_succ, List.set_cons_zero]; go_big_quiet_on
  go_big_quiet_step ((go_at_call 24; exact below_of (k_link_7 _)))
  go_big_quiet_want; refine quiet_load rfl rfl Lo ?_; simp only [Act.put, List.setIfInBounds_toArray, List.set_cons_succ, List.set_cons_zero]; go_big_quiet_on
  go_big_quiet_step ((go_at_call 25; exact below_of (k_state_0 _)))
  go_big_quiet_want; refine quiet_load rfl rfl Lo ?_; simp only [Act.put, List.setIfInBounds_toArray, List.set_cons_succ, List.set_cons_zero]; go_big_quiet_on
  go_big_quiet_step ((go_at_call 10; exact below_of (k_cache_0_3_1 _)))
  go_big_quiet_want; refine quiet_load rfl rfl Lo ?_; simp only [Act.put, List.setIfInBounds_toArray, List.set_cons_succ, List.set_cons_zero]; go_big_quiet_on
  go_big_quiet_step ((go_at_call 11; exact below_of (k_head_0_0 _)))
  go_big_quiet_want; refine quiet_load rfl rfl Lo ?_; simp only [Act.put, List.setIfInBounds_toArray, List.set_cons_succ, List.set_cons_zero]; go_big_quiet_on
  go_big_quiet_step ((go_at_call 12; exact below_of (k_hazard_0_1 _)))
  go_big_quiet_want; refine quiet_load rfl rfl Lo ?_; simp only [Act.put, List.setIfInBounds_toArray, List.set_cons_succ, List.set_cons_zero]; go_big_quiet_on
  go_big_quiet_step ((go_at_call 14; exact below_of (k_gone_0 _)))
  go_big_quiet_want; refine quiet_load rfl rfl Lo ?_; simp only [Act.put, List.setIfInBounds_toArray, List.set_cons_succ, List.set_cons_zero]; go_big_quiet_on
  go_big_quiet_step ((go_at_call 13; exact below_of (k_retired_0_3 _)))
  go_big_quiet_want; refine quiet_load rfl rfl Lo ?_; simp only [Act.put, List.setIfInBounds_toArray, List.set_cons_succ, List.set_cons_zero]; go_big_quiet_on
  go_big_quiet_step ((go_at_call 17; exact below_of (k_next_1 _)))
  go_big_quiet_want; refine quiet_load rfl rfl Lo ?_; simp only [Act.put, List.setIfInBounds_toArray, List.set_cons_succ, List.set_cons_zero]; go_big_quiet_on
  go_big_quiet_step ((go_at_call 16; exact below_of (k_item_13_7 _)))
  go_big_quiet_want; refine quiet_load rfl rfl Lo ?_; simp only [Act.put, List.setIfInBounds_toArray, List.set_cons_succ, List.set_cons_zero]; go_big_quiet_on
  go_big_quiet_step ((go_at_call 18; exact below_of (k_count_5 _)))
  go_big_quiet_want; refine quiet_load rfl rfl Lo ?_; simp only [Act.put, List.setIfInBounds_toArray, List.set_cons_succ, List.set_cons_zero]; go_big_quiet_on
  go_big_quiet_step ((go_at_call 21; exact below_of (k_page_1 _)))
  go_big_quiet_want; refine quiet_load rfl rfl Lo ?_; simp only [Act.put, List.setIfInBounds_toArray, List.set_cons_succ, List.set_cons_zero]; go_big_quiet_on
  go_big_quiet_step ((go_at_call 17; exact below_of (k_next_0 _)))
  go_big_quiet_want; refine quiet_load rfl rfl Lo ?_; simp only [Act.put, List.setIfInBounds_toArray, List.set_cons_succ, List.set_cons_zero]; go_big_quiet_on
  go_big_quiet_step ((go_at_call 16; exact below_of (k_item_14_0 _)))
  go_big_quiet_want; refine quiet_load rfl rfl Lo ?_; simp only [Act.put, List.setIfInBounds_toArray, List.set_cons_succ, List.set_cons_zero]; go_big_quiet_on
  go_big_quiet_step ((go_at_call 10; exact below_of (k_cache_0_4_0 _)))
  go_big_quiet_want; refine quiet_load rfl rfl Lo ?_; simp only [Act.put, List.setIfInBounds_toArray, List.set_cons_succ, List.set_cons_zero]; go_big_quiet_on
  go_big_quiet_step ((go_at_call 10; exact below_of (k_cache_m1_4_0 _)))
  go_big_quiet_want; refine quiet_load rfl rfl Lo ?_; simp only [Act.put, List.setIfInBounds_toArray, List.set_cons_succ, List.set_cons_zero]; go_big_quiet_on
  go_big_quiet_step ((go_at_call 18; exact below_of (k_count_m1 _)))
  refine wpQuiet_nil ?_
  rintro w5 ⟨s, rfl⟩
  have B5 := bnext B s.2
  generalize s.1 = W5 at *
  clear A B Lo
  go_wp2_with fail
  generalize hV : World.alloc (World.alloc W5 _) _ = V
  have A1 : At V W5.heap.size wants 3 := by rw [← hV]; exact (At.last W5 wants 3).alloc _
  have A2 : At V (W5.heap.size + 1) wants 3 := by rw [← hV]; exact heap_alloc2_new _ _ _
  have BV : Below w.heap.size w V := by rw [← hV]; exact (B5.alloc B5.size _).alloc (by have := B5.size; simp; omega) _
  clear hV B5
  go_loopw [5] (fun i wr => ∃ k : Nat, k ≤ 26 ∧ i = .int .i64 k ∧ Below V.heap.size V wr) (fun i _ => 26 - (intOf i).toNat)
  case atStart => exact ⟨0, by omega, rfl, Below.refl _ _⟩
  case round =>
    obtain ⟨k, hk, rfl, hB⟩ := hrel
    by_cases hkm : k < 26
    · have c1 := (A1.below hB).cell k (wants_get k hkm)
      have c2 := (A2.below hB).cell k (wants_get k hkm)
      have k0 : (0 : Int) ≤ (k : Int) := by omega
      have k1 : (k : Int) < 26 := by omega
      generalize wantI k = v at *
      go_wp2_with fail
      go_quiet (fail)
      go_wp2_with fail
      go_roundw
      case rel => exact ⟨k + 1, by omega, by go_num, below_drewN hB _⟩
      case measure => simp [intOf]; omega
    · obtain rfl : k = 26 := by omega
      have BW := bnext BV hB
      clear A1 A2 BV hB
      go_wp2_with fail
      refine (new_no 257 1 _ (by decide)).mono ?_
      rintro e w6 ⟨rfl, b⟩
      replace BW := bnext BW b
      clear b
      go_wp2_with (refine wpList_new_geo rfl (.tmp 6) (.tmp 90) rfl rfl 0 0 _ rfl ?_; intro W6 A6 b; replace BW := bnext BW b; clear b A6)
      refine (new_no 1 65 _ (by decide)).mono ?_
      rintro e w7 ⟨rfl, b⟩
      replace BW := bnext BW b
      clear b
      go_wp2_with (refine wpList_new_geo rfl (.tmp 8) (.tmp 94) rfl rfl 0 0 _ rfl ?_; intro W7 A7 b; replace BW := bnext BW b; clear b A7)
      refine (new_no 0 1 _ (by decide)).mono ?_
      rintro e w8 ⟨rfl, b⟩
      replace BW := bnext BW b
      clear b
      go_wp2_with (refine wpList_new_geo rfl (.tmp 10) (.tmp 98) rfl rfl 0 0 _ rfl ?_; intro W8 A8 b; replace BW := bnext BW b; clear b A8)
      refine (new_yes 256 64 _ (by decide) (by decide) (by decide) (by decide)).mono ?_
      rintro e w9 ⟨rfl, b⟩
      replace BW := bnext BW b
      clear b
      go_upto_region 13 with (refine wpList_new_geo rfl (.tmp 12) (.tmp 102) rfl rfl 256 64 _ rfl ?_; intro W9 A9 b; replace BW := bnext BW b; clear b A9)
      go_upto_region 14 with fail
      generalize hU : World.alloc W9 _ = U
      have A : At U W9.heap.size (gb 0 0 (fun _ => 0)) 25 := by rw [← hU]; exact At.last _ _ _
      have BU : Below w.heap.size w U := by rw [← hU]; exact BW.alloc BW.size _
      clear hU BW
      go_wp2_with (refine wpList_load_geo (by rfl) (.tmp 14) rfl _ rfl 0 0 _ A ?_)
      refine (z_lock _).mono ?_
      rintro e x1 ⟨rfl, b⟩
      replace A := A.below b
      replace BU := bnext BU b
      clear b
      go_wp2_with (refine wpList_load_geo (by rfl) (.tmp 14) rfl _ rfl 0 0 _ A ?_)
      refine (z_item _).mono ?_
      rintro e x2 ⟨rfl, b⟩
      replace A := A.below b
      replace BU := bnext BU b
      clear b
      go_wp2_with (refine wpList_load_geo (by rfl) (.tmp 14) rfl _ rfl 0 0 _ A ?_)
      refine (z_words _).mono ?_
      rintro e x3 ⟨rfl, b⟩
      replace A := A.below b
      replace BU := bnext BU b
      clear b
      go_wp2_with fail
      refine (awake_any _).mono ?_
      rintro e x4 ⟨rfl, b⟩
      go_wp2_with fail
      go_ret
      exact ⟨rfl, bnext BU b⟩
end Go.Proofs.Ytjdmchfneaebpaa
