/- The walk of all: the list of a small geometry's words. Condition: the numbers fit their kinds. -/
import Derived.Test.YtjdmchfneaebpaaFq
namespace Go.Proofs.Ytjdmchfneaebpaa
open Go.RowKit
set_option linter.unusedVariables false

theorem lstA_up (c : Nat → Int) (k : Nat) : lstA c (k + 1) = lstA c k ++ rowA c k := by unfold lstA; rw [flat_up, List.append_assoc]
theorem lstB_up (c : Nat → Int) (k : Nat) : lstB c (k + 1) = lstB c k ++ rowB c k := by unfold lstB; rw [flat_up, List.append_assoc]
theorem lstC_up (c : Nat → Int) (n m k : Nat) : lstC c n m (k + 1) = lstC c n m k ++ rowC c m k := by unfold lstC; rw [flat_up, List.append_assoc]
theorem lstD_up (c : Nat → Int) (n t m k : Nat) : lstD c n t m (k + 1) = lstD c n t m k ++ rowD c k := by unfold lstD; rw [flat_up, List.append_assoc]
/-- the rows' beginnings -/
def hdB (c : Nat → Int) (i k : Nat) : List Int := [c 7 + i, c 8 + i, c 9 + i] ++ (List.range k).flatMap (rowB2 c i)
def hdC (c : Nat → Int) (i k : Nat) : List Int := [c 6 + i, c 15 + i, c 14 + (i * 2 + 0), c 14 + (i * 2 + 1)] ++ (List.range k).flatMap (rowC2 c i)
def hdR (c : Nat → Int) (m i k : Nat) : List Int := rowC1 c i ++ (List.range k).flatMap (rowC3 c m i)
def hdD (c : Nat → Int) (i k : Nat) : List Int := [c 17 + i] ++ (List.range k).flatMap (rowD2 c i)
theorem hdB_up (c : Nat → Int) (i k : Nat) : hdB c i (k + 1) = hdB c i k ++ rowB2 c i k := by unfold hdB; rw [flat_up, List.append_assoc]
theorem hdC_up (c : Nat → Int) (i k : Nat) : hdC c i (k + 1) = hdC c i k ++ rowC2 c i k := by unfold hdC; rw [flat_up, List.append_assoc]
theorem hdR_up (c : Nat → Int) (m i k : Nat) : hdR c m i (k + 1) = hdR c m i k ++ rowC3 c m i k := by unfold hdR; rw [flat_up, List.append_assoc]
theorem hdD_up (c : Nat → Int) (i k : Nat) : hdD c i (k + 1) = hdD c i k ++ rowD2 c i k := by unfold hdD; rw [flat_up, List.append_assoc]
theorem le_hdB (c : Nat → Int) (i k : Nat) : (hdB c i k).length = 3 + k * 2 := by unfold hdB; rw [List.length_append, len_flat (rowB2 c i) 2 _ (fun _ _ => rfl), List.length_range]; rfl
theorem le_hdC (c : Nat → Int) (i k : Nat) : (hdC c i k).length = 4 + k * 3 := by unfold hdC; rw [List.length_append, len_flat (rowC2 c i) 3 _ (fun _ _ => rfl), List.length_range]; rfl
theorem le_hdR (c : Nat → Int) (m i k : Nat) : (hdR c m i k).length = 16 + k := by
  unfold hdR; rw [List.length_append, len_flat (rowC3 c m i) 1 _ (fun _ _ => rfl), List.length_range]; show (hdC c i 4).length + _ = _; rw [le_hdC]; omega
theorem le_hdD (c : Nat → Int) (i k : Nat) : (hdD c i k).length = 1 + k := by unfold hdD; rw [List.length_append, len_flat (rowD2 c i) 1 _ (fun _ _ => rfl), List.length_range]; simp

theorem wrq {e d : Int} (h0 : -1000000000000 ≤ e) (h1 : e ≤ 1000000000000) (h : e = d) : IntKind.i64.wrap e = d := wr h0 h1 h
def AllDo (n t q : Nat) (w : World) (e : Ending) (w' : World) : Prop := ∃ v, e = .returned v ∧ Out w n t (lstD (bs n t) n t (2 * t + 2) q) v w'
theorem out_first {w W : World} {n t : Nat} (A : At W w.heap.size (gb n t (bs n t)) 25) (B : Below w.heap.size w W) :
    Out w n t (lstA (bs n t) 0) (.slice (some ⟨W.heap.size, 0, none⟩) 3 3) (W.alloc (.cells #[.int .i64 (bs n t 0), .int .i64 (bs n t 1), .int .i64 (bs n t 4)] 3)) := by
  refine ⟨?_, A.alloc _, B.alloc B.size _⟩
  exact ⟨by simp [lstA], .inr ⟨W.heap.size, 3, _, rfl, A.lt, heap_alloc_new W _, Nat.le_refl _, by decide, by simp, by simp [lstA]⟩⟩

set_option maxRecDepth 100000 in
set_option maxHeartbeats 8000000 in
theorem all_walk {n t : Nat} (H : Sm n t) (q : Nat) (hq : (q : Int) = ndI n t) (w : World) : Calls Try.prog 30 #[.agg (gb n t (bs n t))] w (AllDo n t q w) := by
  have N := H.nd
  obtain ⟨n0, n1, t0, t1⟩ := Lib.hid H |>.out
  go_enter Try.func30, Try.ntmps30
  go_upto_region 1 with fail
  have A0 : At (w.alloc (.cells (gb n t (bs n t)) 25)) w.heap.size (gb n t (bs n t)) 25 := At.last w _ _
  have B0 : Below w.heap.size w (w.alloc (.cells (gb n t (bs n t)) 25)) := (Below.refl _ w).alloc (Nat.le_refl _) _
  generalize World.alloc w _ = V at *
  go_wp2_with (refine wpList_load_geo (by rfl) (.tmp 1) rfl _ rfl n t _ A0 ?_)
  refine (pages_any n t (bs n t) _).mono ?_
  rintro e x1 ⟨rfl, b⟩
  replace A0 := A0.below b
  replace B0 := bnext B0 b
  clear b
  go_wp2_with (refine wpList_load_geo (by rfl) (.tmp 1) rfl _ rfl n t _ A0 ?_)
  refine (threads_any n t (bs n t) _).mono ?_
  rintro e x2 ⟨rfl, b⟩
  replace A0 := A0.below b
  replace B0 := bnext B0 b
  clear b
  go_upto_region 3 with fail
  have Lo := load_gb A0
  refine tail_below 6 (by kernel_rfl) (by kernel_rfl) ?_
  simp only [List.take_succ_cons, List.take_zero, List.drop_succ_cons, List.drop_zero]
  go_big_quiet_want; refine quiet_load rfl rfl Lo ?_; simp only [Act.put, List.setIfInBounds_toArray, List.set_cons_succ, List.set_cons_zero]; go_big_quiet_on
  go_big_quiet_step ((go_at_call 27; exact below_of (s_lock H _)))
  go_big_quiet_want; refine quiet_load rfl rfl Lo ?_; simp only [Act.put, List.setIfInBounds_toArray, List.set_cons_succ, List.set_cons_zero]; go_big_quiet_on
  go_big_quiet_step ((go_at_call 28; exact below_of (s_epoch H _)))
  go_big_quiet_want; refine quiet_load rfl rfl Lo ?_; simp only [Act.put, List.setIfInBounds_toArray, List.set_cons_succ, List.set_cons_zero]; go_big_quiet_on
  go_big_quiet_step ((go_at_call 29; exact below_of (s_pool H _)))
  refine wpQuiet_nil ?_
  rintro w5 ⟨s, rfl⟩
  replace A0 := A0.below s.2
  replace B0 := bnext B0 s.2
  clear Lo
  generalize s.1 = W5 at *
  go_upto_region 5 with fail
  have O0 := out_first A0 B0
  generalize World.alloc W5 _ = V5 at *
  clear A0 B0
  go_loopw [5, 6] (fun v ii wr => ∃ k : Nat, k ≤ 9 ∧ ii = .int .i64 k ∧ Out w n t (lstA (bs n t) k) v wr) (fun _ ii _ => 9 - (intOf ii).toNat)
  case atStart => exact ⟨0, by omega, rfl, O0⟩
  case round =>
    obtain ⟨k, hk, rfl, O⟩ := hrel
    clear O0
    have hl := le_lstA (bs n t) k
    by_cases h9 : k < 9
    · by_cases h4 : k < 4
      · have h5 : k < 5 := by omega
        go_wp2_with (refine wpList_load_geo (by rfl) (.tmp 1) rfl _ rfl n t _ O.geo ?_)
        refine (s_count H k (by omega) _).mono ?_
        rintro e x1 ⟨rfl, b⟩
        replace O := O.below b
        clear b
        go_upto_region 9 with (at_builtin; refine arm_out O [bs n t 2 + k] (by simp; omega) rfl (.tmp 31) (.tmp 35) rfl rfl rfl ?_; intro V1v V1 O1)
        clear O
        go_wp2_with (refine wpList_load_geo (by rfl) (.tmp 1) rfl _ rfl n t _ O1.geo ?_)
        refine (s_adds H k (by omega) _).mono ?_
        rintro e x1 ⟨rfl, b⟩
        replace O1 := O1.below b
        clear b
        go_upto_region 11 with (at_builtin; refine arm_out O1 [bs n t 5 + k] (by simp; omega) rfl (.tmp 39) (.tmp 43) rfl rfl rfl ?_; intro V2v V2 O2)
        clear O1
        go_wp2_with (refine wpList_load_geo (by rfl) (.tmp 1) rfl _ rfl n t _ O2.geo ?_)
        refine (s_bin H k (by omega) _).mono ?_
        rintro e x1 ⟨rfl, b⟩
        replace O2 := O2.below b
        clear b
        go_wp2_with (at_builtin; refine arm_out O2 [bs n t 3 + k] (by simp; omega) rfl (.tmp 45) (.tmp 49) rfl rfl rfl ?_; intro V3v V3 O3)
        go_roundw
        case rel => exact ⟨k + 1, by omega, by go_num, by rw [lstA_up]; simpa [rowA, rowA1, rowA2, h4, h5] using O3⟩
        case measure => simp [intOf]; omega
      · by_cases h5 : k < 5
        · go_wp2_with (refine wpList_load_geo (by rfl) (.tmp 1) rfl _ rfl n t _ O.geo ?_)
          refine (s_count H k (by omega) _).mono ?_
          rintro e x1 ⟨rfl, b⟩
          replace O := O.below b
          clear b
          go_upto_region 9 with (at_builtin; refine arm_out O [bs n t 2 + k] (by simp; omega) rfl (.tmp 31) (.tmp 35) rfl rfl rfl ?_; intro V1v V1 O1)
          clear O
          go_wp2_with (refine wpList_load_geo (by rfl) (.tmp 1) rfl _ rfl n t _ O1.geo ?_)
          refine (s_bin H k (by omega) _).mono ?_
          rintro e x1 ⟨rfl, b⟩
          replace O1 := O1.below b
          clear b
          go_wp2_with (at_builtin; refine arm_out O1 [bs n t 3 + k] (by simp; omega) rfl (.tmp 45) (.tmp 49) rfl rfl rfl ?_; intro V3v V3 O3)
          go_roundw
          case rel => exact ⟨k + 1, by omega, by go_num, by rw [lstA_up]; simpa [rowA, rowA1, rowA2, h4, h5] using O3⟩
          case measure => simp [intOf]; omega
        · go_wp2_with (refine wpList_load_geo (by rfl) (.tmp 1) rfl _ rfl n t _ O.geo ?_)
          refine (s_bin H k (by omega) _).mono ?_
          rintro e x1 ⟨rfl, b⟩
          replace O := O.below b
          clear b
          go_wp2_with (at_builtin; refine arm_out O [bs n t 3 + k] (by simp; omega) rfl (.tmp 45) (.tmp 49) rfl rfl rfl ?_; intro V3v V3 O3)
          go_roundw
          case rel => exact ⟨k + 1, by omega, by go_num, by rw [lstA_up]; simpa [rowA, rowA1, rowA2, h4, h5] using O3⟩
          case measure => simp [intOf]; omega
    · obtain rfl : k = 9 := by omega
      simp only [show ((9 : Nat) : Int) = 9 from rfl]
      clear hl h9 hk
      go_upto_region 13 with fail
      rw [show lstA (bs n t) 9 = lstB (bs n t) 0 by simp [lstB]] at O
      go_loopw [5, 7] (fun v ii wr => ∃ i : Nat, i ≤ n ∧ ii = .int .i64 i ∧ Out w n t (lstB (bs n t) i) v wr) (fun _ ii _ => n - (intOf ii).toNat)
      case atStart => exact ⟨0, by omega, rfl, O⟩
      case round =>
        obtain ⟨i, hi, rfl, Oi⟩ := hrel
        clear O
        have hl := le_lstB (bs n t) i
        by_cases hn : i < n
        · go_upto_region 15 with fail
          refine region_flow (n := 10) (d := 66) (ob := .cells #[.int .i64 (bs n t 7 + i), .int .i64 (bs n t 8 + i), .int .i64 (bs n t 9 + i)] 3) (A := ?A66) [59, 62, 65] (at34 3) (by kernel_rfl) (by kernel_rfl) (by kernel_rfl) rfl rfl rfl ?h166 ?hal66 ?h266
          case h166 =>
            intro x hx
            have Lo := load_gb (Oi.geo.below hx)
            simp only [List.take_succ_cons, List.take_zero]
            go_big_quiet_step (fail)
            go_big_quiet_want; refine quiet_load rfl rfl Lo ?_; simp only [Act.put, List.setIfInBounds_toArray, List.set_cons_succ, List.set_cons_zero]; go_big_quiet_on
            go_big_quiet_step (fail)
            go_big_quiet_step ((go_at_call 21; exact below_of (s_page H i hn _)))
            go_big_quiet_want; refine quiet_load rfl rfl Lo ?_; simp only [Act.put, List.setIfInBounds_toArray, List.set_cons_succ, List.set_cons_zero]; go_big_quiet_on
            go_big_quiet_step (fail)
            go_big_quiet_step ((go_at_call 22; exact below_of (s_bits H i hn _)))
            go_big_quiet_want; refine quiet_load rfl rfl Lo ?_; simp only [Act.put, List.setIfInBounds_toArray, List.set_cons_succ, List.set_cons_zero]; go_big_quiet_on
            go_big_quiet_step (fail)
            go_big_quiet_step ((go_at_call 23; exact below_of (s_remote H i hn _)))
            refine wpQuiet_nil ?_
            rfl
          case hal66 => exact fun a w K hG hK => bs3 rfl rfl _ _ _ _ rfl rfl rfl a w K hG hK
          case h266 =>
          intro g x hx hg1 hg2 hA
          replace Oi := Oi.below hx
          simp only [List.drop_succ_cons, List.drop_zero, Act.put, List.setIfInBounds_toArray, List.set_cons_succ, List.set_cons_zero]
          refine arm_at Oi g [bs n t 7 + i, bs n t 8 + i, bs n t 9 + i] hA (by simp; omega) rfl (.tmp 56) (.tmp 66) rfl rfl rfl ?_
          intro V1v V1 O1
          go_upto_region 17 with fail
          clear Oi
          rw [show lstB (bs n t) i ++ [bs n t 7 + i, bs n t 8 + i, bs n t 9 + i] = lstB (bs n t) i ++ hdB (bs n t) i 0 by simp [hdB]] at O1
          go_loopw [5, 8] (fun v ii wr => ∃ k : Nat, k ≤ 8 ∧ ii = .int .i64 k ∧ Out w n t (lstB (bs n t) i ++ hdB (bs n t) i k) v wr) (fun _ ii _ => 8 - (intOf ii).toNat)
          case atStart => exact ⟨0, by omega, rfl, O1⟩
          case round =>
            obtain ⟨k, hk, rfl, O⟩ := hrel
            clear O1
            have hl2 := le_hdB (bs n t) i k
            by_cases h8 : k < 8
            · have m1 : IntKind.i64.wrap (8 * (i : Int)) = 8 * i := wrq (by omega) (by omega) rfl
              have m2 : IntKind.i64.wrap (8 * (i : Int) + k) = 8 * i + k := wrq (by omega) (by omega) rfl
              go_upto_region 19 with fail
              refine region_flow (n := 13) (d := 85) (ob := .cells #[.int .i64 (bs n t 10 + (8 * i + k)), .int .i64 (bs n t 11 + (8 * i + k))] 3) (A := ?A85) [78, 84] (at34 2) (by kernel_rfl) (by kernel_rfl) (by kernel_rfl) rfl rfl rfl ?h185 ?hal85 ?h285
              case h185 =>
                intro x hx
                have Lo := load_gb (O.geo.below hx)
                simp only [List.take_succ_cons, List.take_zero]
                go_big_quiet_step (fail)
                go_big_quiet_want; refine quiet_load rfl rfl Lo ?_; simp only [Act.put, List.setIfInBounds_toArray, List.set_cons_succ, List.set_cons_zero]; go_big_quiet_on
                go_big_quiet_step (fail)
                go_big_quiet_step (fail)
                go_big_quiet_step (fail)
                go_big_quiet_step (fail)
                go_big_quiet_step ((go_at_call 24; exact below_of (s_link H i k hn h8 _)))
                go_big_quiet_want; refine quiet_load rfl rfl Lo ?_; simp only [Act.put, List.setIfInBounds_toArray, List.set_cons_succ, List.set_cons_zero]; go_big_quiet_on
                go_big_quiet_step (fail)
                go_big_quiet_step (fail)
                go_big_quiet_step (fail)
                go_big_quiet_step (fail)
                go_big_quiet_step ((go_at_call 25; exact below_of (s_state H i k hn h8 _)))
                refine wpQuiet_nil ?_
                rfl
              case hal85 => exact fun a w K hG hK => bs2 rfl rfl _ _ _ rfl rfl a w K hG hK
              case h285 =>
              intro g x hx hg1 hg2 hA
              replace O := O.below hx
              simp only [List.drop_succ_cons, List.drop_zero, Act.put, List.setIfInBounds_toArray, List.set_cons_succ, List.set_cons_zero]
              refine arm_at O g [bs n t 10 + (8 * i + k), bs n t 11 + (8 * i + k)] hA (by simp; omega) rfl (.tmp 72) (.tmp 85) rfl rfl rfl ?_
              intro V2v V2 O2
              go_wp2_with fail
              go_roundw
              case rel => exact ⟨k + 1, by omega, by go_num, by rw [hdB_up]; simpa [rowB2] using O2⟩
              case measure => simp [intOf]; omega
            · obtain rfl : k = 8 := by omega
              simp only [show ((8 : Nat) : Int) = 8 from rfl]
              go_wp2_with fail
              go_roundw
              case rel => exact ⟨i + 1, by omega, by go_num, by rw [lstB_up]; exact O⟩
              case measure => simp [intOf]; omega
        · obtain rfl : n = i := by omega
          clear hl hn hi
          go_upto_region 21 with fail
          rw [show lstB (bs n t) n = lstC (bs n t) n (2 * t + 2) 0 by simp [lstC]] at Oi
          go_loopw [5, 9] (fun v ii wr => ∃ i : Nat, i ≤ t ∧ ii = .int .i64 i ∧ Out w n t (lstC (bs n t) n (2 * t + 2) i) v wr) (fun _ ii _ => t - (intOf ii).toNat)
          case atStart => exact ⟨0, by omega, rfl, Oi⟩
          case round =>
            obtain ⟨i, hi, rfl, Ot⟩ := hrel
            clear Oi
            have hl := le_lstC (bs n t) n (2 * t + 2) i (by omega)
            by_cases ht : i < t
            · go_upto_region 23 with fail
              refine region_flow (n := 13) (d := 105) (ob := .cells #[.int .i64 (bs n t 6 + i), .int .i64 (bs n t 15 + i), .int .i64 (bs n t 14 + (i * 2 + 0)), .int .i64 (bs n t 14 + (i * 2 + 1))] 3) (A := ?A105) [95, 98, 101, 104] (at34 4) (by kernel_rfl) (by kernel_rfl) (by kernel_rfl) rfl rfl rfl ?h1105 ?hal105 ?h2105
              case h1105 =>
                intro x hx
                have Lo := load_gb (Ot.geo.below hx)
                simp only [List.take_succ_cons, List.take_zero]
                go_big_quiet_step (fail)
                go_big_quiet_want; refine quiet_load rfl rfl Lo ?_; simp only [Act.put, List.setIfInBounds_toArray, List.set_cons_succ, List.set_cons_zero]; go_big_quiet_on
                go_big_quiet_step (fail)
                go_big_quiet_step ((go_at_call 15; exact below_of (s_serial H i ht _)))
                go_big_quiet_want; refine quiet_load rfl rfl Lo ?_; simp only [Act.put, List.setIfInBounds_toArray, List.set_cons_succ, List.set_cons_zero]; go_big_quiet_on
                go_big_quiet_step (fail)
                go_big_quiet_step ((go_at_call 14; exact below_of (s_gone H i ht _)))
                go_big_quiet_want; refine quiet_load rfl rfl Lo ?_; simp only [Act.put, List.setIfInBounds_toArray, List.set_cons_succ, List.set_cons_zero]; go_big_quiet_on
                go_big_quiet_step (fail)
                go_big_quiet_step ((go_at_call 12; exact below_of (s_hazard0 H i ht _)))
                go_big_quiet_want; refine quiet_load rfl rfl Lo ?_; simp only [Act.put, List.setIfInBounds_toArray, List.set_cons_succ, List.set_cons_zero]; go_big_quiet_on
                go_big_quiet_step (fail)
                go_big_quiet_step ((go_at_call 12; exact below_of (s_hazard1 H i ht _)))
                refine wpQuiet_nil ?_
                rfl
              case hal105 => exact fun a w K hG hK => bs4 rfl rfl _ _ _ _ _ rfl rfl rfl rfl a w K hG hK
              case h2105 =>
              intro g x hx hg1 hg2 hA
              replace Ot := Ot.below hx
              simp only [List.drop_succ_cons, List.drop_zero, Act.put, List.setIfInBounds_toArray, List.set_cons_succ, List.set_cons_zero]
              refine arm_at Ot g [bs n t 6 + i, bs n t 15 + i, bs n t 14 + (i * 2 + 0), bs n t 14 + (i * 2 + 1)] hA (by simp; omega) rfl (.tmp 92) (.tmp 105) rfl rfl rfl ?_
              intro V1v V1 O1
              go_upto_region 25 with fail
              clear Ot
              rw [show lstC (bs n t) n (2 * t + 2) i ++ [bs n t 6 + i, bs n t 15 + i, bs n t 14 + (i * 2 + 0), bs n t 14 + (i * 2 + 1)] = lstC (bs n t) n (2 * t + 2) i ++ hdC (bs n t) i 0 by simp [hdC]] at O1
              go_loopw [5, 10] (fun v ii wr => ∃ k : Nat, k ≤ 4 ∧ ii = .int .i64 k ∧ Out w n t (lstC (bs n t) n (2 * t + 2) i ++ hdC (bs n t) i k) v wr) (fun _ ii _ => 4 - (intOf ii).toNat)
              case atStart => exact ⟨0, by omega, rfl, O1⟩
              case round =>
                obtain ⟨k, hk, rfl, O⟩ := hrel
                clear O1
                have hl2 := le_hdC (bs n t) i k
                by_cases h4 : k < 4
                · go_upto_region 27 with fail
                  refine region_flow (n := 13) (d := 124) (ob := .cells #[.int .i64 (bs n t 13 + (i * 4 + k)), .int .i64 (bs n t 12 + ((i * 4 + k) * 2 + 0)), .int .i64 (bs n t 12 + ((i * 4 + k) * 2 + 1))] 3) (A := ?A124) [115, 119, 123] (at34 3) (by kernel_rfl) (by kernel_rfl) (by kernel_rfl) rfl rfl rfl ?h1124 ?hal124 ?h2124
                  case h1124 =>
                    intro x hx
                    have Lo := load_gb (O.geo.below hx)
                    simp only [List.take_succ_cons, List.take_zero]
                    go_big_quiet_step (fail)
                    go_big_quiet_want; refine quiet_load rfl rfl Lo ?_; simp only [Act.put, List.setIfInBounds_toArray, List.set_cons_succ, List.set_cons_zero]; go_big_quiet_on
                    go_big_quiet_step (fail)
                    go_big_quiet_step (fail)
                    go_big_quiet_step ((go_at_call 11; exact below_of (s_head H i k ht h4 _)))
                    go_big_quiet_want; refine quiet_load rfl rfl Lo ?_; simp only [Act.put, List.setIfInBounds_toArray, List.set_cons_succ, List.set_cons_zero]; go_big_quiet_on
                    go_big_quiet_step (fail)
                    go_big_quiet_step (fail)
                    go_big_quiet_step ((go_at_call 10; exact below_of (s_cache0 H i k ht h4 _)))
                    go_big_quiet_want; refine quiet_load rfl rfl Lo ?_; simp only [Act.put, List.setIfInBounds_toArray, List.set_cons_succ, List.set_cons_zero]; go_big_quiet_on
                    go_big_quiet_step (fail)
                    go_big_quiet_step (fail)
                    go_big_quiet_step ((go_at_call 10; exact below_of (s_cache1 H i k ht h4 _)))
                    refine wpQuiet_nil ?_
                    rfl
                  case hal124 => exact fun a w K hG hK => bs3 rfl rfl _ _ _ _ rfl rfl rfl a w K hG hK
                  case h2124 =>
                  intro g x hx hg1 hg2 hA
                  replace O := O.below hx
                  simp only [List.drop_succ_cons, List.drop_zero, Act.put, List.setIfInBounds_toArray, List.set_cons_succ, List.set_cons_zero]
                  refine arm_at O g [bs n t 13 + (i * 4 + k), bs n t 12 + ((i * 4 + k) * 2 + 0), bs n t 12 + ((i * 4 + k) * 2 + 1)] hA (by simp; omega) rfl (.tmp 111) (.tmp 124) rfl rfl rfl ?_
                  intro V2v V2 O2
                  go_wp2_with fail
                  go_roundw
                  case rel => exact ⟨k + 1, by omega, by go_num, by rw [hdC_up]; simpa [rowC2] using O2⟩
                  case measure => simp [intOf]; omega
                · obtain rfl : k = 4 := by omega
                  simp only [show ((4 : Nat) : Int) = 4 from rfl]
                  clear hk h4 hl2
                  go_upto_region 29 with fail
                  rw [show lstC (bs n t) n (2 * t + 2) i ++ hdC (bs n t) i 4 = lstC (bs n t) n (2 * t + 2) i ++ hdR (bs n t) (2 * t + 2) i 0 by simp [hdR, hdC, rowC1]] at O
                  have m1 : IntKind.i64.wrap (2 * (t : Int)) = 2 * t := wrq (by omega) (by omega) rfl
                  have m2 : IntKind.i64.wrap (2 * (t : Int) + 2) = 2 * t + 2 := wrq (by omega) (by omega) rfl
                  go_loopw [5, 11] (fun v ii wr => ∃ k : Nat, k ≤ 2 * t + 2 ∧ ii = .int .i64 k ∧ Out w n t (lstC (bs n t) n (2 * t + 2) i ++ hdR (bs n t) (2 * t + 2) i k) v wr) (fun _ ii _ => 2 * t + 2 - (intOf ii).toNat)
                  case atStart => exact ⟨0, by omega, rfl, O⟩
                  case round =>
                    obtain ⟨k, hk, rfl, Ok⟩ := hrel
                    clear O
                    have hl2 := le_hdR (bs n t) (2 * t + 2) i k
                    by_cases hm : k < 2 * t + 2
                    · go_wp2_with (refine wpList_load_geo (by rfl) (.tmp 1) rfl _ rfl n t _ Ok.geo ?_)
                      refine (s_retired H i k ht hm _).mono ?_
                      rintro e x1 ⟨rfl, b⟩
                      replace Ok := Ok.below b
                      clear b
                      go_wp2_with (at_builtin; refine arm_out Ok [bs n t 16 + (i * ((2 * t + 2 : Nat) : Int) + k)] (by simp; omega) rfl (.tmp 133) (.tmp 138) rfl rfl rfl ?_; intro V3v V3 O3)
                      go_roundw
                      case rel => exact ⟨k + 1, by omega, by go_num, by rw [hdR_up]; simpa [rowC3] using O3⟩
                      case measure => simp [intOf]; omega
                    · obtain rfl : k = 2 * t + 2 := by omega
                      go_wp2_with fail
                      go_roundw
                      case rel => exact ⟨i + 1, by omega, by go_num, by rw [lstC_up]; exact Ok⟩
                      case measure => simp [intOf]; omega
            · obtain rfl : t = i := by omega
              clear hl ht hi
              go_upto_region 33 with fail
              rw [show lstC (bs n t) n (2 * t + 2) t = lstD (bs n t) n t (2 * t + 2) 0 by simp [lstD]] at Ot
              go_loopw [5, 12] (fun v ii wr => ∃ i : Nat, i ≤ q ∧ ii = .int .i64 ((i : Int) + 1) ∧ Out w n t (lstD (bs n t) n t (2 * t + 2) i) v wr) (fun _ ii _ => q + 1 - (intOf ii).toNat)
              case atStart => exact ⟨0, by omega, rfl, Ot⟩
              case round =>
                obtain ⟨i, hi, rfl, Oq⟩ := hrel
                clear Ot
                have hl := le_lstD (bs n t) n t (2 * t + 2) i (by omega)
                go_wp2_with (refine wpList_load_geo (by rfl) (.tmp 1) rfl _ rfl n t _ Oq.geo ?_)
                refine (s_nodes H _).mono ?_
                rintro e x1 ⟨rfl, b⟩
                replace Oq := Oq.below b
                clear b
                rw [← hq]
                by_cases hn : i < q
                · have hn2 : (i : Int) < ndI n t := by omega
                  go_wp2_with (refine wpList_load_geo (by rfl) (.tmp 1) rfl _ rfl n t _ Oq.geo ?_)
                  refine (s_next H i hn2 _).mono ?_
                  rintro e x1 ⟨rfl, b⟩
                  replace Oq := Oq.below b
                  clear b
                  go_upto_region 37 with (at_builtin; refine arm_out Oq [bs n t 17 + i] (by simp; omega) rfl (.tmp 146) (.tmp 150) rfl rfl rfl ?_; intro V1v V1 O1)
                  clear Oq
                  rw [show lstD (bs n t) n t (2 * t + 2) i ++ [bs n t 17 + i] = lstD (bs n t) n t (2 * t + 2) i ++ hdD (bs n t) i 0 by simp [hdD]] at O1
                  go_loopw [5, 13] (fun v ii wr => ∃ k : Nat, k ≤ 8 ∧ ii = .int .i64 k ∧ Out w n t (lstD (bs n t) n t (2 * t + 2) i ++ hdD (bs n t) i k) v wr) (fun _ ii _ => 8 - (intOf ii).toNat)
                  case atStart => exact ⟨0, by omega, rfl, O1⟩
                  case round =>
                    obtain ⟨k, hk, rfl, O⟩ := hrel
                    clear O1
                    have hl2 := le_hdD (bs n t) i k
                    by_cases h8 : k < 8
                    · go_wp2_with (refine wpList_load_geo (by rfl) (.tmp 1) rfl _ rfl n t _ O.geo ?_)
                      refine (s_item H i k hn2 h8 _).mono ?_
                      rintro e x1 ⟨rfl, b⟩
                      replace O := O.below b
                      clear b
                      go_wp2_with (at_builtin; refine arm_out O [bs n t 18 + (i * 8 + k)] (by simp; omega) rfl (.tmp 156) (.tmp 161) rfl rfl rfl ?_; intro V2v V2 O2)
                      go_roundw
                      case rel => exact ⟨k + 1, by omega, by go_num, by rw [hdD_up]; simpa [rowD2] using O2⟩
                      case measure => simp [intOf]; omega
                    · obtain rfl : k = 8 := by omega
                      simp only [show ((8 : Nat) : Int) = 8 from rfl]
                      go_wp2_with fail
                      go_roundw
                      case rel => exact ⟨i + 1, by omega, by go_num, by rw [lstD_up]; exact O⟩
                      case measure => simp [intOf]; omega
                · obtain rfl : q = i := by omega
                  go_wp2_with fail
                  go_ret
                  exact ⟨_, rfl, Oq⟩
end Go.Proofs.Ytjdmchfneaebpaa
