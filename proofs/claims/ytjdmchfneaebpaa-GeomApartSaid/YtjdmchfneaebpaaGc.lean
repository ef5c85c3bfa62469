/- The geometry's methods by their numbers. Condition: the numbers fit their kinds. -/
import Derived.Test.YtjdmchfneaebpaaGa
import Derived.Deep.MidRow
import Derived.Deep.Cut
namespace Go.Proofs.Ytjdmchfneaebpaa
open Go.RowKit
set_option linter.unusedVariables false

theorem in_any (n k m : Int) (w : World) (m0 : 0 ≤ m) (m1 : m ≤ 1000) :
    Calls Try.prog 32 #[.int .i64 n, .int .i64 k, .int .i64 m] w fun e w' => e = .returned (.int .i64 (inv n k m)) ∧ w' = w := by
  go_enter Try.func32, Try.ntmps32
  by_cases n0 : n < 0
  · go_wp2
    go_ret
    exact ⟨ret_int (by unfold inv; rw [if_pos (Or.inl n0)]), rfl⟩
  by_cases n1 : 1073741824 < n
  · go_wp2
    go_ret
    exact ⟨ret_int (by unfold inv; rw [if_pos (Or.inr (Or.inl n1))]), rfl⟩
  by_cases k0 : k < 0
  · go_wp2
    go_ret
    exact ⟨ret_int (by unfold inv; rw [if_pos (by omega)]), rfl⟩
  by_cases k1 : m ≤ k
  · go_wp2
    go_ret
    exact ⟨ret_int (by unfold inv; rw [if_pos (by omega)]), rfl⟩
  have b1 : n * m ≤ 1073741824 * 1000 := Int.mul_le_mul (by omega) m1 m0 (by omega)
  have b0 : 0 ≤ n * m := Int.mul_nonneg (by omega) m0
  go_wp2
  go_ret
  exact ⟨ret_int (by unfold inv; rw [if_neg (by omega)]), rfl⟩

theorem len_gb (n t : Int) (c : Nat → Int) : (gb n t c).toList.length = 22 := rfl
theorem info_gb : (Try.prog.info? 25).map (·.size) = some 22 := by kernel_rfl
theorem range_gb {w : World} {b : Nat} {n t : Int} {c : Nat → Int} (h : At w b (gb n t c) 25) : w.rangeAt b 0 (gb n t c).toList := by
  intro j v hv
  rw [Nat.zero_add]
  rw [Array.getElem?_toList] at hv
  exact h.cell j hv
theorem load_gb {w : World} {b : Nat} {n t : Int} {c : Nat → Int} (h : At w b (gb n t c) 25) : ∀ s : Bel w, (Instr.loadAt 25 (.pointer (some ⟨b, 0, none⟩))).run Try.prog s.1 = .ok (.agg (gb n t c)) s.1 := by
  intro s
  have r := run_loadAt_mid (P := Try.prog) s.1 b 0 25 (gb n t c).toList _ (range_gb (h.below s.2)) Try.underlying25 rfl (by rw [len_gb]; exact info_gb)
  rwa [Array.toArray_toList] at r

/-- a load of a whole value, by its law -/
theorem quiet_load {P : Program} {w : World} {a : Act} {o : Oper} {K : Act → Prop} {ty : TypeId} {x : Operand} {p v : Value} (ho : o.op = .load ty x) (hx : a.eval x = p)
    (hL : ∀ s : Bel w, (Instr.loadAt ty p).run P s.1 = .ok v s.1) (hk : K (a.put o.dst v)) : o.quiet P a (fun w' => ∃ s : Bel w, w' = s.1) K := by
  refine ⟨v, ?_, hk⟩
  rintro w' ⟨s, rfl⟩
  unfold Oper.quietAt execOp
  simp only [ho, hx]
  simp only [Sem.run_bind, hL, Result.andThen_ok, Sem.run_pure]
  exact ⟨rfl, rfl⟩

set_option maxHeartbeats 1000000 in
theorem count_any (n t : Int) (a : Int) (c : Nat → Int) (w : World) (p0 : 0 ≤ c 2) (p1 : c 2 ≤ 1000000) (q0 : 0 ≤ c 3) (q1 : c 3 ≤ 1000000) :
    Calls Try.prog 18 #[.agg (gb n t c), .int .i64 a] w fun e w' => e = .returned (.int .i64 (atv (c 2) (c 3) (a))) ∧ Below w.heap.size w w' := by
  have Hk := Lib.hid (fun w => at_2 n t (a) c w p0 p1 q0 q1)
  generalize atv (c 2) (c 3) _ = r at *
  go_enter Try.func18, Try.ntmps18
  go_upto_region 1 with fail
  go_wp2_with (refine wpList_load_row rfl 25 (.tmp 2) rfl w.heap.size rfl 25 (gb n t c) (0, 0) _ (heap_alloc_new w _) Try.underlying25 rfl info_gb ?_)
  refine (Hk.out _).mono ?_
  rintro e w1 ⟨rfl, b1⟩
  go_wp2_with fail
  go_ret
  exact ⟨rfl, ((Below.refl _ w).alloc (Nat.le_refl _) _).trans (b1.mono (by simp))⟩

set_option maxHeartbeats 1000000 in
theorem bin_any (n t : Int) (a : Int) (c : Nat → Int) (w : World) (p0 : 0 ≤ c 3) (p1 : c 3 ≤ 1000000) (q0 : 0 ≤ c 4) (q1 : c 4 ≤ 1000000) :
    Calls Try.prog 19 #[.agg (gb n t c), .int .i64 a] w fun e w' => e = .returned (.int .i64 (atv (c 3) (c 4) (a))) ∧ Below w.heap.size w w' := by
  have Hk := Lib.hid (fun w => at_3 n t (a) c w p0 p1 q0 q1)
  generalize atv (c 3) (c 4) _ = r at *
  go_enter Try.func19, Try.ntmps19
  go_upto_region 1 with fail
  go_wp2_with (refine wpList_load_row rfl 25 (.tmp 2) rfl w.heap.size rfl 25 (gb n t c) (0, 0) _ (heap_alloc_new w _) Try.underlying25 rfl info_gb ?_)
  refine (Hk.out _).mono ?_
  rintro e w1 ⟨rfl, b1⟩
  go_wp2_with fail
  go_ret
  exact ⟨rfl, ((Below.refl _ w).alloc (Nat.le_refl _) _).trans (b1.mono (by simp))⟩

set_option maxHeartbeats 1000000 in
theorem adds_any (n t : Int) (a : Int) (c : Nat → Int) (w : World) (p0 : 0 ≤ c 5) (p1 : c 5 ≤ 1000000) (q0 : 0 ≤ c 6) (q1 : c 6 ≤ 1000000) :
    Calls Try.prog 20 #[.agg (gb n t c), .int .i64 a] w fun e w' => e = .returned (.int .i64 (atv (c 5) (c 6) (a))) ∧ Below w.heap.size w w' := by
  have Hk := Lib.hid (fun w => at_5 n t (a) c w p0 p1 q0 q1)
  generalize atv (c 5) (c 6) _ = r at *
  go_enter Try.func20, Try.ntmps20
  go_upto_region 1 with fail
  go_wp2_with (refine wpList_load_row rfl 25 (.tmp 2) rfl w.heap.size rfl 25 (gb n t c) (0, 0) _ (heap_alloc_new w _) Try.underlying25 rfl info_gb ?_)
  refine (Hk.out _).mono ?_
  rintro e w1 ⟨rfl, b1⟩
  go_wp2_with fail
  go_ret
  exact ⟨rfl, ((Below.refl _ w).alloc (Nat.le_refl _) _).trans (b1.mono (by simp))⟩

set_option maxHeartbeats 1000000 in
theorem serial_any (n t : Int) (a : Int) (c : Nat → Int) (w : World) (p0 : 0 ≤ c 6) (p1 : c 6 ≤ 1000000) (q0 : 0 ≤ c 7) (q1 : c 7 ≤ 1000000) :
    Calls Try.prog 15 #[.agg (gb n t c), .int .i64 a] w fun e w' => e = .returned (.int .i64 (atv (c 6) (c 7) (a))) ∧ Below w.heap.size w w' := by
  have Hk := Lib.hid (fun w => at_6 n t (a) c w p0 p1 q0 q1)
  generalize atv (c 6) (c 7) _ = r at *
  go_enter Try.func15, Try.ntmps15
  go_upto_region 1 with fail
  go_wp2_with (refine wpList_load_row rfl 25 (.tmp 2) rfl w.heap.size rfl 25 (gb n t c) (0, 0) _ (heap_alloc_new w _) Try.underlying25 rfl info_gb ?_)
  refine (Hk.out _).mono ?_
  rintro e w1 ⟨rfl, b1⟩
  go_wp2_with fail
  go_ret
  exact ⟨rfl, ((Below.refl _ w).alloc (Nat.le_refl _) _).trans (b1.mono (by simp))⟩

set_option maxHeartbeats 1000000 in
theorem page_any (n t : Int) (a : Int) (c : Nat → Int) (w : World) (p0 : 0 ≤ c 7) (p1 : c 7 ≤ 1000000) (q0 : 0 ≤ c 8) (q1 : c 8 ≤ 1000000) :
    Calls Try.prog 21 #[.agg (gb n t c), .int .i64 a] w fun e w' => e = .returned (.int .i64 (atv (c 7) (c 8) (a))) ∧ Below w.heap.size w w' := by
  have Hk := Lib.hid (fun w => at_7 n t (a) c w p0 p1 q0 q1)
  generalize atv (c 7) (c 8) _ = r at *
  go_enter Try.func21, Try.ntmps21
  go_upto_region 1 with fail
  go_wp2_with (refine wpList_load_row rfl 25 (.tmp 2) rfl w.heap.size rfl 25 (gb n t c) (0, 0) _ (heap_alloc_new w _) Try.underlying25 rfl info_gb ?_)
  refine (Hk.out _).mono ?_
  rintro e w1 ⟨rfl, b1⟩
  go_wp2_with fail
  go_ret
  exact ⟨rfl, ((Below.refl _ w).alloc (Nat.le_refl _) _).trans (b1.mono (by simp))⟩

set_option maxHeartbeats 1000000 in
theorem bits_any (n t : Int) (a : Int) (c : Nat → Int) (w : World) (p0 : 0 ≤ c 8) (p1 : c 8 ≤ 1000000) (q0 : 0 ≤ c 9) (q1 : c 9 ≤ 1000000) :
    Calls Try.prog 22 #[.agg (gb n t c), .int .i64 a] w fun e w' => e = .returned (.int .i64 (atv (c 8) (c 9) (a))) ∧ Below w.heap.size w w' := by
  have Hk := Lib.hid (fun w => at_8 n t (a) c w p0 p1 q0 q1)
  generalize atv (c 8) (c 9) _ = r at *
  go_enter Try.func22, Try.ntmps22
  go_upto_region 1 with fail
  go_wp2_with (refine wpList_load_row rfl 25 (.tmp 2) rfl w.heap.size rfl 25 (gb n t c) (0, 0) _ (heap_alloc_new w _) Try.underlying25 rfl info_gb ?_)
  refine (Hk.out _).mono ?_
  rintro e w1 ⟨rfl, b1⟩
  go_wp2_with fail
  go_ret
  exact ⟨rfl, ((Below.refl _ w).alloc (Nat.le_refl _) _).trans (b1.mono (by simp))⟩

set_option maxHeartbeats 1000000 in
theorem remote_any (n t : Int) (a : Int) (c : Nat → Int) (w : World) (p0 : 0 ≤ c 9) (p1 : c 9 ≤ 1000000) (q0 : 0 ≤ c 10) (q1 : c 10 ≤ 1000000) :
    Calls Try.prog 23 #[.agg (gb n t c), .int .i64 a] w fun e w' => e = .returned (.int .i64 (atv (c 9) (c 10) (a))) ∧ Below w.heap.size w w' := by
  have Hk := Lib.hid (fun w => at_9 n t (a) c w p0 p1 q0 q1)
  generalize atv (c 9) (c 10) _ = r at *
  go_enter Try.func23, Try.ntmps23
  go_upto_region 1 with fail
  go_wp2_with (refine wpList_load_row rfl 25 (.tmp 2) rfl w.heap.size rfl 25 (gb n t c) (0, 0) _ (heap_alloc_new w _) Try.underlying25 rfl info_gb ?_)
  refine (Hk.out _).mono ?_
  rintro e w1 ⟨rfl, b1⟩
  go_wp2_with fail
  go_ret
  exact ⟨rfl, ((Below.refl _ w).alloc (Nat.le_refl _) _).trans (b1.mono (by simp))⟩

set_option maxHeartbeats 1000000 in
theorem link_any (n t : Int) (a : Int) (c : Nat → Int) (w : World) (p0 : 0 ≤ c 10) (p1 : c 10 ≤ 1000000) (q0 : 0 ≤ c 11) (q1 : c 11 ≤ 1000000) :
    Calls Try.prog 24 #[.agg (gb n t c), .int .i64 a] w fun e w' => e = .returned (.int .i64 (atv (c 10) (c 11) (a))) ∧ Below w.heap.size w w' := by
  have Hk := Lib.hid (fun w => at_10 n t (a) c w p0 p1 q0 q1)
  generalize atv (c 10) (c 11) _ = r at *
  go_enter Try.func24, Try.ntmps24
  go_upto_region 1 with fail
  go_wp2_with (refine wpList_load_row rfl 25 (.tmp 2) rfl w.heap.size rfl 25 (gb n t c) (0, 0) _ (heap_alloc_new w _) Try.underlying25 rfl info_gb ?_)
  refine (Hk.out _).mono ?_
  rintro e w1 ⟨rfl, b1⟩
  go_wp2_with fail
  go_ret
  exact ⟨rfl, ((Below.refl _ w).alloc (Nat.le_refl _) _).trans (b1.mono (by simp))⟩

set_option maxHeartbeats 1000000 in
theorem state_any (n t : Int) (a : Int) (c : Nat → Int) (w : World) (p0 : 0 ≤ c 11) (p1 : c 11 ≤ 1000000) (q0 : 0 ≤ c 12) (q1 : c 12 ≤ 1000000) :
    Calls Try.prog 25 #[.agg (gb n t c), .int .i64 a] w fun e w' => e = .returned (.int .i64 (atv (c 11) (c 12) (a))) ∧ Below w.heap.size w w' := by
  have Hk := Lib.hid (fun w => at_11 n t (a) c w p0 p1 q0 q1)
  generalize atv (c 11) (c 12) _ = r at *
  go_enter Try.func25, Try.ntmps25
  go_upto_region 1 with fail
  go_wp2_with (refine wpList_load_row rfl 25 (.tmp 2) rfl w.heap.size rfl 25 (gb n t c) (0, 0) _ (heap_alloc_new w _) Try.underlying25 rfl info_gb ?_)
  refine (Hk.out _).mono ?_
  rintro e w1 ⟨rfl, b1⟩
  go_wp2_with fail
  go_ret
  exact ⟨rfl, ((Below.refl _ w).alloc (Nat.le_refl _) _).trans (b1.mono (by simp))⟩

set_option maxHeartbeats 1000000 in
theorem cache_any (n t : Int) (a b d : Int) (c : Nat → Int) (w : World) (p0 : 0 ≤ c 12) (p1 : c 12 ≤ 1000000) (q0 : 0 ≤ c 13) (q1 : c 13 ≤ 1000000) :
    Calls Try.prog 10 #[.agg (gb n t c), .int .i64 a, .int .i64 b, .int .i64 d] w fun e w' => e = .returned (.int .i64 (atv (c 12) (c 13) (inv (inv a b 4) d 2))) ∧ Below w.heap.size w w' := by
  have Hi := Lib.hid (fun w => in_any a b 4 w (by omega) (by omega))
  have Hj := Lib.hid (fun w => in_any (inv a b 4) d 2 w (by omega) (by omega))
  have Hk := Lib.hid (fun w => at_12 n t (inv (inv a b 4) d 2) c w p0 p1 q0 q1)
  generalize inv (inv a b 4) d 2 = k2 at *
  generalize inv a b 4 = k1 at *
  generalize atv (c 12) (c 13) _ = r at *
  go_enter Try.func10, Try.ntmps10
  go_wp2_with fail
  generalize hW : World.alloc w _ = W
  have hB : Below w.heap.size w W := hW ▸ (Below.refl _ w).alloc (Nat.le_refl _) _
  have A : At W w.heap.size (gb n t c) 25 := hW ▸ At.last w _ 25
  clear hW
  have L := load_gb A
  clear A
  refine (Hi.out _).mono ?_
  rintro e w1 ⟨rfl, rfl⟩
  go_wp2_with fail
  refine region_below (by kernel_rfl) (by kernel_rfl) ?_
  repeat (first | (go_big_quiet_want; refine quiet_load rfl rfl L ?_; simp only [Act.put, List.setIfInBounds_toArray, List.set_cons_succ, List.set_cons_zero]; go_big_quiet_on) | go_big_quiet_step (first | (go_at_call 32; exact below_same (Hj.out _)) | (go_at_call 33; exact below_of (Hk.out _))))
  refine wpQuiet_nil ?_
  rintro w5 ⟨s, rfl⟩
  go_wp2_with fail
  go_ret
  exact ⟨rfl, bnext hB s.2⟩

set_option maxHeartbeats 1000000 in
theorem head_any (n t : Int) (a b : Int) (c : Nat → Int) (w : World) (p0 : 0 ≤ c 13) (p1 : c 13 ≤ 1000000) (q0 : 0 ≤ c 14) (q1 : c 14 ≤ 1000000) :
    Calls Try.prog 11 #[.agg (gb n t c), .int .i64 a, .int .i64 b] w fun e w' => e = .returned (.int .i64 (atv (c 13) (c 14) (inv a b 4))) ∧ Below w.heap.size w w' := by
  have Hi := Lib.hid (fun w => in_any a b 4 w (by omega) (by omega))
  have Hk := Lib.hid (fun w => at_13 n t (inv a b 4) c w p0 p1 q0 q1)
  generalize inv a b 4 = k1 at *
  generalize atv (c 13) (c 14) _ = r at *
  go_enter Try.func11, Try.ntmps11
  go_wp2_with fail
  generalize hW : World.alloc w _ = W
  have hB : Below w.heap.size w W := hW ▸ (Below.refl _ w).alloc (Nat.le_refl _) _
  have A : At W w.heap.size (gb n t c) 25 := hW ▸ At.last w _ 25
  clear hW
  have L := load_gb A
  clear A
  refine region_below (by kernel_rfl) (by kernel_rfl) ?_
  repeat (first | (go_big_quiet_want; refine quiet_load rfl rfl L ?_; simp only [Act.put, List.setIfInBounds_toArray, List.set_cons_succ, List.set_cons_zero]; go_big_quiet_on) | go_big_quiet_step (first | (go_at_call 32; exact below_same (Hi.out _)) | (go_at_call 33; exact below_of (Hk.out _))))
  refine wpQuiet_nil ?_
  rintro w5 ⟨s, rfl⟩
  go_wp2_with fail
  go_ret
  exact ⟨rfl, bnext hB s.2⟩

set_option maxHeartbeats 1000000 in
theorem hazard_any (n t : Int) (a b : Int) (c : Nat → Int) (w : World) (p0 : 0 ≤ c 14) (p1 : c 14 ≤ 1000000) (q0 : 0 ≤ c 15) (q1 : c 15 ≤ 1000000) :
    Calls Try.prog 12 #[.agg (gb n t c), .int .i64 a, .int .i64 b] w fun e w' => e = .returned (.int .i64 (atv (c 14) (c 15) (inv a b 2))) ∧ Below w.heap.size w w' := by
  have Hi := Lib.hid (fun w => in_any a b 2 w (by omega) (by omega))
  have Hk := Lib.hid (fun w => at_14 n t (inv a b 2) c w p0 p1 q0 q1)
  generalize inv a b 2 = k1 at *
  generalize atv (c 14) (c 15) _ = r at *
  go_enter Try.func12, Try.ntmps12
  go_wp2_with fail
  generalize hW : World.alloc w _ = W
  have hB : Below w.heap.size w W := hW ▸ (Below.refl _ w).alloc (Nat.le_refl _) _
  have A : At W w.heap.size (gb n t c) 25 := hW ▸ At.last w _ 25
  clear hW
  have L := load_gb A
  clear A
  refine region_below (by kernel_rfl) (by kernel_rfl) ?_
  repeat (first | (go_big_quiet_want; refine quiet_load rfl rfl L ?_; simp only [Act.put, List.setIfInBounds_toArray, List.set_cons_succ, List.set_cons_zero]; go_big_quiet_on) | go_big_quiet_step (first | (go_at_call 32; exact below_same (Hi.out _)) | (go_at_call 33; exact below_of (Hk.out _))))
  refine wpQuiet_nil ?_
  rintro w5 ⟨s, rfl⟩
  go_wp2_with fail
  go_ret
  exact ⟨rfl, bnext hB s.2⟩

set_option maxHeartbeats 1000000 in
theorem gone_any (n t : Int) (a : Int) (c : Nat → Int) (w : World) (p0 : 0 ≤ c 15) (p1 : c 15 ≤ 1000000) (q0 : 0 ≤ c 16) (q1 : c 16 ≤ 1000000) :
    Calls Try.prog 14 #[.agg (gb n t c), .int .i64 a] w fun e w' => e = .returned (.int .i64 (atv (c 15) (c 16) (a))) ∧ Below w.heap.size w w' := by
  have Hk := Lib.hid (fun w => at_15 n t (a) c w p0 p1 q0 q1)
  generalize atv (c 15) (c 16) _ = r at *
  go_enter Try.func14, Try.ntmps14
  go_upto_region 1 with fail
  go_wp2_with (refine wpList_load_row rfl 25 (.tmp 2) rfl w.heap.size rfl 25 (gb n t c) (0, 0) _ (heap_alloc_new w _) Try.underlying25 rfl info_gb ?_)
  refine (Hk.out _).mono ?_
  rintro e w1 ⟨rfl, b1⟩
  go_wp2_with fail
  go_ret
  exact ⟨rfl, ((Below.refl _ w).alloc (Nat.le_refl _) _).trans (b1.mono (by simp))⟩

set_option maxHeartbeats 1000000 in
theorem retired_any (n t : Int) (a b : Int) (c : Nat → Int) (w : World) (t0 : 0 ≤ t) (t1 : t ≤ 64) (p0 : 0 ≤ c 16) (p1 : c 16 ≤ 1000000) (q0 : 0 ≤ c 17) (q1 : c 17 ≤ 1000000) :
    Calls Try.prog 13 #[.agg (gb n t c), .int .i64 a, .int .i64 b] w fun e w' => e = .returned (.int .i64 (atv (c 16) (c 17) (inv a b (2 * t + 2)))) ∧ Below w.heap.size w w' := by
  have Hi := Lib.hid (fun w => in_any a b (2 * t + 2) w (by omega) (by omega))
  have Hr := Lib.hid (fun w => room_any n t c w t0 t1)
  have Hk := Lib.hid (fun w => at_16 n t (inv a b (2 * t + 2)) c w p0 p1 q0 q1)
  generalize inv a b (2 * t + 2) = k1 at *
  generalize atv (c 16) (c 17) _ = r at *
  go_enter Try.func13, Try.ntmps13
  go_wp2_with fail
  generalize hW : World.alloc w _ = W
  have hB : Below w.heap.size w W := hW ▸ (Below.refl _ w).alloc (Nat.le_refl _) _
  have A : At W w.heap.size (gb n t c) 25 := hW ▸ At.last w _ 25
  clear hW
  have L := load_gb A
  clear A
  refine region_below (by kernel_rfl) (by kernel_rfl) ?_
  repeat (first | (go_big_quiet_want; refine quiet_load rfl rfl L ?_; simp only [Act.put, List.setIfInBounds_toArray, List.set_cons_succ, List.set_cons_zero]; go_big_quiet_on) | go_big_quiet_step (first | (go_at_call 32; exact below_same (Hi.out _)) | (go_at_call 31; exact below_of (Hr.out _)) | (go_at_call 33; exact below_of (Hk.out _))))
  refine wpQuiet_nil ?_
  rintro w5 ⟨s, rfl⟩
  go_wp2_with fail
  go_ret
  exact ⟨rfl, bnext hB s.2⟩

set_option maxHeartbeats 1000000 in
theorem next_any (n t : Int) (a : Int) (c : Nat → Int) (w : World) (a0 : -9223372036854775808 < a) (a1 : a ≤ 9223372036854775807) (p0 : 0 ≤ c 17) (p1 : c 17 ≤ 1000000) (q0 : 0 ≤ c 18) (q1 : c 18 ≤ 1000000) :
    Calls Try.prog 17 #[.agg (gb n t c), .int .i64 a] w fun e w' => e = .returned (.int .i64 (atv (c 17) (c 18) (inv (a - 1) 0 1))) ∧ Below w.heap.size w w' := by
  have Hi := Lib.hid (fun w => in_any (a - 1) 0 1 w (by omega) (by omega))
  have Hk := Lib.hid (fun w => at_17 n t (inv (a - 1) 0 1) c w p0 p1 q0 q1)
  generalize inv (a - 1) 0 1 = k1 at *
  generalize atv (c 17) (c 18) _ = r at *
  go_enter Try.func17, Try.ntmps17
  go_wp2_with fail
  generalize hW : World.alloc w _ = W
  have hB : Below w.heap.size w W := hW ▸ (Below.refl _ w).alloc (Nat.le_refl _) _
  have A : At W w.heap.size (gb n t c) 25 := hW ▸ At.last w _ 25
  clear hW
  have L := load_gb A
  clear A
  refine region_below (by kernel_rfl) (by kernel_rfl) ?_
  repeat (first | (go_big_quiet_want; refine quiet_load rfl rfl L ?_; simp only [Act.put, List.setIfInBounds_toArray, List.set_cons_succ, List.set_cons_zero]; go_big_quiet_on) | go_big_quiet_step (first | (go_at_call 32; exact below_same (Hi.out _)) | (go_at_call 33; exact below_of (Hk.out _))))
  refine wpQuiet_nil ?_
  rintro w5 ⟨s, rfl⟩
  go_wp2_with fail
  go_ret
  exact ⟨rfl, bnext hB s.2⟩

set_option maxHeartbeats 1000000 in
theorem item_any (n t : Int) (a b : Int) (c : Nat → Int) (w : World) (a0 : -9223372036854775808 < a) (a1 : a ≤ 9223372036854775807) (p0 : 0 ≤ c 18) (p1 : c 18 ≤ 1000000) (q0 : 0 ≤ c 19) (q1 : c 19 ≤ 1000000) :
    Calls Try.prog 16 #[.agg (gb n t c), .int .i64 a, .int .i64 b] w fun e w' => e = .returned (.int .i64 (atv (c 18) (c 19) (inv (a - 1) b 8))) ∧ Below w.heap.size w w' := by
  have Hi := Lib.hid (fun w => in_any (a - 1) b 8 w (by omega) (by omega))
  have Hk := Lib.hid (fun w => at_18 n t (inv (a - 1) b 8) c w p0 p1 q0 q1)
  generalize inv (a - 1) b 8 = k1 at *
  generalize atv (c 18) (c 19) _ = r at *
  go_enter Try.func16, Try.ntmps16
  go_wp2_with fail
  generalize hW : World.alloc w _ = W
  have hB : Below w.heap.size w W := hW ▸ (Below.refl _ w).alloc (Nat.le_refl _) _
  have A : At W w.heap.size (gb n t c) 25 := hW ▸ At.last w _ 25
  clear hW
  have L := load_gb A
  clear A
  refine region_below (by kernel_rfl) (by kernel_rfl) ?_
  repeat (first | (go_big_quiet_want; refine quiet_load rfl rfl L ?_; simp only [Act.put, List.setIfInBounds_toArray, List.set_cons_succ, List.set_cons_zero]; go_big_quiet_on) | go_big_quiet_step (first | (go_at_call 32; exact below_same (Hi.out _)) | (go_at_call 33; exact below_of (Hk.out _))))
  refine wpQuiet_nil ?_
  rintro w5 ⟨s, rfl⟩
  go_wp2_with fail
  go_ret
  exact ⟨rfl, bnext hB s.2⟩

set_option maxHeartbeats 1000000 in
theorem lock_any (n t : Int) (c : Nat → Int) (w : World) (p0 : 0 ≤ c 0) (p1 : c 0 ≤ 1000000) (q0 : 0 ≤ c 1) (q1 : c 1 ≤ 1000000) :
    Calls Try.prog 27 #[.agg (gb n t c)] w fun e w' => e = .returned (.int .i64 (atv (c 0) (c 1) (0))) ∧ Below w.heap.size w w' := by
  have Hk := Lib.hid (fun w => at_0 n t (0) c w p0 p1 q0 q1)
  generalize atv (c 0) (c 1) _ = r at *
  go_enter Try.func27, Try.ntmps27
  go_upto_region 1 with fail
  go_wp2_with (refine wpList_load_row rfl 25 (.tmp 1) rfl w.heap.size rfl 25 (gb n t c) (0, 0) _ (heap_alloc_new w _) Try.underlying25 rfl info_gb ?_)
  refine (Hk.out _).mono ?_
  rintro e w1 ⟨rfl, b1⟩
  go_wp2_with fail
  go_ret
  exact ⟨rfl, ((Below.refl _ w).alloc (Nat.le_refl _) _).trans (b1.mono (by simp))⟩

set_option maxHeartbeats 1000000 in
theorem epoch_any (n t : Int) (c : Nat → Int) (w : World) (p0 : 0 ≤ c 1) (p1 : c 1 ≤ 1000000) (q0 : 0 ≤ c 2) (q1 : c 2 ≤ 1000000) :
    Calls Try.prog 28 #[.agg (gb n t c)] w fun e w' => e = .returned (.int .i64 (atv (c 1) (c 2) (0))) ∧ Below w.heap.size w w' := by
  have Hk := Lib.hid (fun w => at_1 n t (0) c w p0 p1 q0 q1)
  generalize atv (c 1) (c 2) _ = r at *
  go_enter Try.func28, Try.ntmps28
  go_upto_region 1 with fail
  go_wp2_with (refine wpList_load_row rfl 25 (.tmp 1) rfl w.heap.size rfl 25 (gb n t c) (0, 0) _ (heap_alloc_new w _) Try.underlying25 rfl info_gb ?_)
  refine (Hk.out _).mono ?_
  rintro e w1 ⟨rfl, b1⟩
  go_wp2_with fail
  go_ret
  exact ⟨rfl, ((Below.refl _ w).alloc (Nat.le_refl _) _).trans (b1.mono (by simp))⟩

set_option maxHeartbeats 1000000 in
theorem pool_any (n t : Int) (c : Nat → Int) (w : World) (p0 : 0 ≤ c 4) (p1 : c 4 ≤ 1000000) (q0 : 0 ≤ c 5) (q1 : c 5 ≤ 1000000) :
    Calls Try.prog 29 #[.agg (gb n t c)] w fun e w' => e = .returned (.int .i64 (atv (c 4) (c 5) (0))) ∧ Below w.heap.size w w' := by
  have Hk := Lib.hid (fun w => at_4 n t (0) c w p0 p1 q0 q1)
  generalize atv (c 4) (c 5) _ = r at *
  go_enter Try.func29, Try.ntmps29
  go_upto_region 1 with fail
  go_wp2_with (refine wpList_load_row rfl 25 (.tmp 1) rfl w.heap.size rfl 25 (gb n t c) (0, 0) _ (heap_alloc_new w _) Try.underlying25 rfl info_gb ?_)
  refine (Hk.out _).mono ?_
  rintro e w1 ⟨rfl, b1⟩
  go_wp2_with fail
  go_ret
  exact ⟨rfl, ((Below.refl _ w).alloc (Nat.le_refl _) _).trans (b1.mono (by simp))⟩
end Go.Proofs.Ytjdmchfneaebpaa
