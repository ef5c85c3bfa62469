/- (*mem.Memory).Do of bytes, of no kind, and of nil, by its numbers. Condition: the numbers fit their kinds, the words and bytes lie in memory of their own. -/
import Derived.Test.YtmdagppeeejikaaMb
namespace Go.Proofs.Ytmdagppeeejikaa
open Go.RowKit
set_option linter.unusedVariables false

set_option maxHeartbeats 1000000 in
theorem do_in5 (p bw bb : Nat) (W B : List Int) (i : Nat) (a b : Int) (w : World) (M : IsMem w p bw bb W B) (h : i < B.length) (a0 : 0 ≤ a) (a1 : a < 18446744073709551616) (b0 : 0 ≤ b) (b1 : b < 18446744073709551616) :
    Calls Try.prog 15 #[.pointer (some ⟨p, 0, none⟩), .agg #[.int .u8 5, .int .i64 i, .int .u64 a, .int .u64 b]] w fun e w' => e = .returned (.tuple #[.int .u64 (B.getD i 0), .bool true]) ∧ Below w.heap.size w w' := by
  have hv := getD_wf M.bwf i h
  have hs := u8s_get B i h
  have HS := Lib.hid (fun (w : World) (M : IsMem w p bw bb W B) v hv => IsMem.setB M i v hv)
  have HL := Lib.hid h
  have hn := M.blen
  have i0 : (0 : Int) ≤ (i : Int) := by omega
  have i1 : (i : Int) < (B.length : Int) := by omega
  have z1 : decide ((i : Int) < 0) = false := decide_eq_false (by omega)
  have z2 : decide ((B.length : Int) ≤ (i : Int)) = false := decide_eq_false (by omega)
  have z3 : decide ((i : Int) ≥ (B.length : Int)) = false := decide_eq_false (by omega)
  obtain ⟨x, hx⟩ : ∃ x, x = B.getD i 0 := ⟨_, rfl⟩
  rw [← hx] at hv hs
  rw [← hx]
  have HX := Lib.hid hx
  clear hx
  obtain ⟨v0, v1⟩ := hv
  have am : 0 ≤ a % 256 ∧ a % 256 < 256 := by omega
  have HA := Lib.hid am
  clear am
  go_enter Try.func15, Try.ntmps15
  go_upto_region 13 with fail
  generalize hV : World.alloc w _ = V
  have hB : Below w.heap.size w V := hV ▸ (Below.refl _ w).alloc (Nat.le_refl _) _
  have X : At V w.heap.size #[.int .u8 5, .int .i64 i, .int .u64 a, .int .u64 b] 30 := hV ▸ At.last w _ 30
  have Me := M.below hB
  clear hV M
  have x0 := bel_cell (X.cell 0 rfl)
  have x1 := bel_cell (X.cell 1 rfl)
  have x2 := bel_cell (X.cell 2 rfl)
  have x3 := bel_cell (X.cell 3 rfl)
  have Cn := Lib.hid (fun s : Bel V => below_same (w := V) (s := s) (bytes_any s.1 p _ B.length B.length _ (Me.top.below s.2)))
  refine region_below (by kernel_rfl) (by kernel_rfl) ?_
  repeat (go_big_quiet_step ((go_at_call 21; exact Cn.out _)))
  refine wpQuiet_nil ?_
  rintro w5 ⟨s, rfl⟩
  have B5 := bnext hB s.2
  have M5 := Me.below s.2
  have X5 := X.below s.2
  generalize s.1 = V5 at *
  clear x0 x1 x2 x3 Cn Me X hB
  have X8 := X5
  have M8 := M5
  have B8 := B5
  have y0 := X5.cell 0 rfl
  go_upto_region 16 with fail
  clear y0
  have x0 := bel_cell (X8.cell 0 rfl)
  have x1 := bel_cell (X8.cell 1 rfl)
  have x2 := bel_cell (X8.cell 2 rfl)
  have x3 := bel_cell (X8.cell 3 rfl)
  have m0 := bel_cell (M8.top.cell 1 rfl)
  have m1 := bel_cell (M8.bytes.cell i hs)
  refine region_below (by kernel_rfl) (by kernel_rfl) ?_
  repeat (go_big_quiet_step (fail))
  refine wpQuiet_nil ?_
  rintro w5 ⟨s, rfl⟩
  go_wp2_with fail
  go_ret2
  exact ⟨rfl, bnext B8 s.2⟩
set_option maxHeartbeats 1000000 in
theorem do_in6 (p bw bb : Nat) (W B : List Int) (i : Nat) (a b : Int) (w : World) (M : IsMem w p bw bb W B) (h : i < B.length) (a0 : 0 ≤ a) (a1 : a < 18446744073709551616) (b0 : 0 ≤ b) (b1 : b < 18446744073709551616) :
    Calls Try.prog 15 #[.pointer (some ⟨p, 0, none⟩), .agg #[.int .u8 6, .int .i64 i, .int .u64 a, .int .u64 b]] w fun e w' => e = .returned (.tuple #[.int .u64 0, .bool true]) ∧ IsMem w' p bw bb W (B.set i (a % 256)) ∧ Wr bw bb w w' := by
  have hv := getD_wf M.bwf i h
  have hs := u8s_get B i h
  have HS := Lib.hid (fun (w : World) (M : IsMem w p bw bb W B) v hv => IsMem.setB M i v hv)
  have HL := Lib.hid h
  have hn := M.blen
  have i0 : (0 : Int) ≤ (i : Int) := by omega
  have i1 : (i : Int) < (B.length : Int) := by omega
  have z1 : decide ((i : Int) < 0) = false := decide_eq_false (by omega)
  have z2 : decide ((B.length : Int) ≤ (i : Int)) = false := decide_eq_false (by omega)
  have z3 : decide ((i : Int) ≥ (B.length : Int)) = false := decide_eq_false (by omega)
  obtain ⟨x, hx⟩ : ∃ x, x = B.getD i 0 := ⟨_, rfl⟩
  rw [← hx] at hv hs

  have HX := Lib.hid hx
  clear hx
  obtain ⟨v0, v1⟩ := hv
  have am : 0 ≤ a % 256 ∧ a % 256 < 256 := by omega
  have HA := Lib.hid am
  clear am
  go_enter Try.func15, Try.ntmps15
  go_upto_region 13 with fail
  generalize hV : World.alloc w _ = V
  have hB : Below w.heap.size w V := hV ▸ (Below.refl _ w).alloc (Nat.le_refl _) _
  have X : At V w.heap.size #[.int .u8 6, .int .i64 i, .int .u64 a, .int .u64 b] 30 := hV ▸ At.last w _ 30
  have Me := M.below hB
  clear hV M
  have x0 := bel_cell (X.cell 0 rfl)
  have x1 := bel_cell (X.cell 1 rfl)
  have x2 := bel_cell (X.cell 2 rfl)
  have x3 := bel_cell (X.cell 3 rfl)
  have Cn := Lib.hid (fun s : Bel V => below_same (w := V) (s := s) (bytes_any s.1 p _ B.length B.length _ (Me.top.below s.2)))
  refine region_below (by kernel_rfl) (by kernel_rfl) ?_
  repeat (go_big_quiet_step ((go_at_call 21; exact Cn.out _)))
  refine wpQuiet_nil ?_
  rintro w5 ⟨s, rfl⟩
  have B5 := bnext hB s.2
  have M5 := Me.below s.2
  have X5 := X.below s.2
  generalize s.1 = V5 at *
  clear x0 x1 x2 x3 Cn Me X hB
  have X8 := X5
  have M8 := M5
  have B8 := B5
  have y0 := X5.cell 0 rfl
  go_upto_region 17 with fail
  clear y0
  have x0 := bel_cell (X8.cell 0 rfl)
  have x1 := bel_cell (X8.cell 1 rfl)
  have x2 := bel_cell (X8.cell 2 rfl)
  have x3 := bel_cell (X8.cell 3 rfl)
  have m0 := bel_cell (M8.top.cell 1 rfl)
  have m1 := bel_cell (M8.bytes.cell i hs)
  refine tail_below 10 (by kernel_rfl) (by kernel_rfl) ?_
  simp only [List.take_succ_cons, List.take_zero, List.drop_succ_cons, List.drop_zero]
  repeat (go_big_quiet_step (fail))
  refine wpQuiet_nil ?_
  rintro w5 ⟨s, rfl⟩
  have B9 := bnext B8 s.2
  have M9 := M8.below s.2
  have X9 := X8.below s.2
  generalize s.1 = V9 at *
  clear x0 x1 x2 x3 m0 m1 M8 X8 B8
  have c1 := M9.bytes.cell i hs
  have c2 := frozen_of_row _ _ i _ _ M9.bytes
  go_wp2_with fail
  go_ret2
  exact ⟨rfl, HS.out _ M9 _ HA.out, Wr.setCell (bw := bw) (bb := bb) (q := ⟨bb, i, none⟩) (Wr.of_below B9) (.inr rfl) _⟩
set_option maxHeartbeats 1000000 in
theorem do_none (v : Value) (k t a b : Int) (w : World) (k0 : 0 ≤ k) (k1 : k ≤ 255) (h : k < 1 ∨ 6 < k) :
    Calls Try.prog 15 #[v, .agg #[.int .u8 k, .int .i64 t, .int .u64 a, .int .u64 b]] w fun e w' => e = .returned (.tuple #[.int .u64 0, .bool false]) ∧ Below w.heap.size w w' := by
  have z1 : (k == 1) = false := by simp; omega
  have z2 : (k == 2) = false := by simp; omega
  have z3 : (k == 3) = false := by simp; omega
  have z4 : (k == 4) = false := by simp; omega
  have z5 : (k == 5) = false := by simp; omega
  have z6 : (k == 6) = false := by simp; omega
  clear h
  go_enter Try.func15, Try.ntmps15
  go_wp2_with fail
  go_ret2
  exact ⟨rfl, (Below.refl _ w).alloc (Nat.le_refl _) _⟩
set_option maxHeartbeats 1000000 in
theorem do_nil1 (t a b : Int) (w : World) :
    Calls Try.prog 15 #[.pointer none, .agg #[.int .u8 1, .int .i64 t, .int .u64 a, .int .u64 b]] w fun e w' => e = .returned (.tuple #[.int .u64 0, .bool false]) ∧ Below w.heap.size w w' := by
  go_enter Try.func15, Try.ntmps15
  go_upto_region 6 with fail
  generalize hV : World.alloc w _ = V
  have hB : Below w.heap.size w V := hV ▸ (Below.refl _ w).alloc (Nat.le_refl _) _
  have X : At V w.heap.size #[.int .u8 1, .int .i64 t, .int .u64 a, .int .u64 b] 30 := hV ▸ At.last w _ 30
  clear hV
  have x0 := bel_cell (X.cell 0 rfl)
  have x1 := bel_cell (X.cell 1 rfl)
  have x2 := bel_cell (X.cell 2 rfl)
  have x3 := bel_cell (X.cell 3 rfl)
  clear X
  by_cases ht : t < 0
  · have z1 : decide (t < 0) = true := decide_eq_true ht
    refine region_below (by kernel_rfl) (by kernel_rfl) ?_
    repeat (go_big_quiet_step ((go_at_call 20; exact below_same (words_nil _))))
    refine wpQuiet_nil ?_
    rintro w5 ⟨s, rfl⟩
    go_wp2_with fail
    go_ret2
    exact ⟨rfl, bnext hB s.2⟩
  · have h2 : (0 : Int) ≤ t := by omega
    have z1 : decide (t < 0) = false := decide_eq_false ht
    have z2 : decide ((0 : Int) ≤ t) = true := decide_eq_true h2
    have z3 : decide (t ≥ (0 : Int)) = true := decide_eq_true h2
    refine region_below (by kernel_rfl) (by kernel_rfl) ?_
    repeat (go_big_quiet_step ((go_at_call 20; exact below_same (words_nil _))))
    refine wpQuiet_nil ?_
    rintro w5 ⟨s, rfl⟩
    go_wp2_with fail
    go_ret2
    exact ⟨rfl, bnext hB s.2⟩
set_option maxHeartbeats 1000000 in
theorem do_nil2 (t a b : Int) (w : World) :
    Calls Try.prog 15 #[.pointer none, .agg #[.int .u8 2, .int .i64 t, .int .u64 a, .int .u64 b]] w fun e w' => e = .returned (.tuple #[.int .u64 0, .bool false]) ∧ Below w.heap.size w w' := by
  go_enter Try.func15, Try.ntmps15
  go_upto_region 6 with fail
  generalize hV : World.alloc w _ = V
  have hB : Below w.heap.size w V := hV ▸ (Below.refl _ w).alloc (Nat.le_refl _) _
  have X : At V w.heap.size #[.int .u8 2, .int .i64 t, .int .u64 a, .int .u64 b] 30 := hV ▸ At.last w _ 30
  clear hV
  have x0 := bel_cell (X.cell 0 rfl)
  have x1 := bel_cell (X.cell 1 rfl)
  have x2 := bel_cell (X.cell 2 rfl)
  have x3 := bel_cell (X.cell 3 rfl)
  clear X
  by_cases ht : t < 0
  · have z1 : decide (t < 0) = true := decide_eq_true ht
    refine region_below (by kernel_rfl) (by kernel_rfl) ?_
    repeat (go_big_quiet_step ((go_at_call 20; exact below_same (words_nil _))))
    refine wpQuiet_nil ?_
    rintro w5 ⟨s, rfl⟩
    go_wp2_with fail
    go_ret2
    exact ⟨rfl, bnext hB s.2⟩
  · have h2 : (0 : Int) ≤ t := by omega
    have z1 : decide (t < 0) = false := decide_eq_false ht
    have z2 : decide ((0 : Int) ≤ t) = true := decide_eq_true h2
    have z3 : decide (t ≥ (0 : Int)) = true := decide_eq_true h2
    refine region_below (by kernel_rfl) (by kernel_rfl) ?_
    repeat (go_big_quiet_step ((go_at_call 20; exact below_same (words_nil _))))
    refine wpQuiet_nil ?_
    rintro w5 ⟨s, rfl⟩
    go_wp2_with fail
    go_ret2
    exact ⟨rfl, bnext hB s.2⟩
set_option maxHeartbeats 1000000 in
theorem do_nil3 (t a b : Int) (w : World) :
    Calls Try.prog 15 #[.pointer none, .agg #[.int .u8 3, .int .i64 t, .int .u64 a, .int .u64 b]] w fun e w' => e = .returned (.tuple #[.int .u64 0, .bool false]) ∧ Below w.heap.size w w' := by
  go_enter Try.func15, Try.ntmps15
  go_upto_region 6 with fail
  generalize hV : World.alloc w _ = V
  have hB : Below w.heap.size w V := hV ▸ (Below.refl _ w).alloc (Nat.le_refl _) _
  have X : At V w.heap.size #[.int .u8 3, .int .i64 t, .int .u64 a, .int .u64 b] 30 := hV ▸ At.last w _ 30
  clear hV
  have x0 := bel_cell (X.cell 0 rfl)
  have x1 := bel_cell (X.cell 1 rfl)
  have x2 := bel_cell (X.cell 2 rfl)
  have x3 := bel_cell (X.cell 3 rfl)
  clear X
  by_cases ht : t < 0
  · have z1 : decide (t < 0) = true := decide_eq_true ht
    refine region_below (by kernel_rfl) (by kernel_rfl) ?_
    repeat (go_big_quiet_step ((go_at_call 20; exact below_same (words_nil _))))
    refine wpQuiet_nil ?_
    rintro w5 ⟨s, rfl⟩
    go_wp2_with fail
    go_ret2
    exact ⟨rfl, bnext hB s.2⟩
  · have h2 : (0 : Int) ≤ t := by omega
    have z1 : decide (t < 0) = false := decide_eq_false ht
    have z2 : decide ((0 : Int) ≤ t) = true := decide_eq_true h2
    have z3 : decide (t ≥ (0 : Int)) = true := decide_eq_true h2
    refine region_below (by kernel_rfl) (by kernel_rfl) ?_
    repeat (go_big_quiet_step ((go_at_call 20; exact below_same (words_nil _))))
    refine wpQuiet_nil ?_
    rintro w5 ⟨s, rfl⟩
    go_wp2_with fail
    go_ret2
    exact ⟨rfl, bnext hB s.2⟩
set_option maxHeartbeats 1000000 in
theorem do_nil4 (t a b : Int) (w : World) :
    Calls Try.prog 15 #[.pointer none, .agg #[.int .u8 4, .int .i64 t, .int .u64 a, .int .u64 b]] w fun e w' => e = .returned (.tuple #[.int .u64 0, .bool false]) ∧ Below w.heap.size w w' := by
  go_enter Try.func15, Try.ntmps15
  go_upto_region 6 with fail
  generalize hV : World.alloc w _ = V
  have hB : Below w.heap.size w V := hV ▸ (Below.refl _ w).alloc (Nat.le_refl _) _
  have X : At V w.heap.size #[.int .u8 4, .int .i64 t, .int .u64 a, .int .u64 b] 30 := hV ▸ At.last w _ 30
  clear hV
  have x0 := bel_cell (X.cell 0 rfl)
  have x1 := bel_cell (X.cell 1 rfl)
  have x2 := bel_cell (X.cell 2 rfl)
  have x3 := bel_cell (X.cell 3 rfl)
  clear X
  by_cases ht : t < 0
  · have z1 : decide (t < 0) = true := decide_eq_true ht
    refine region_below (by kernel_rfl) (by kernel_rfl) ?_
    repeat (go_big_quiet_step ((go_at_call 20; exact below_same (words_nil _))))
    refine wpQuiet_nil ?_
    rintro w5 ⟨s, rfl⟩
    go_wp2_with fail
    go_ret2
    exact ⟨rfl, bnext hB s.2⟩
  · have h2 : (0 : Int) ≤ t := by omega
    have z1 : decide (t < 0) = false := decide_eq_false ht
    have z2 : decide ((0 : Int) ≤ t) = true := decide_eq_true h2
    have z3 : decide (t ≥ (0 : Int)) = true := decide_eq_true h2
    refine region_below (by kernel_rfl) (by kernel_rfl) ?_
    repeat (go_big_quiet_step ((go_at_call 20; exact below_same (words_nil _))))
    refine wpQuiet_nil ?_
    rintro w5 ⟨s, rfl⟩
    go_wp2_with fail
    go_ret2
    exact ⟨rfl, bnext hB s.2⟩
set_option maxHeartbeats 1000000 in
theorem do_nil5 (t a b : Int) (w : World) :
    Calls Try.prog 15 #[.pointer none, .agg #[.int .u8 5, .int .i64 t, .int .u64 a, .int .u64 b]] w fun e w' => e = .returned (.tuple #[.int .u64 0, .bool false]) ∧ Below w.heap.size w w' := by
  go_enter Try.func15, Try.ntmps15
  go_upto_region 13 with fail
  generalize hV : World.alloc w _ = V
  have hB : Below w.heap.size w V := hV ▸ (Below.refl _ w).alloc (Nat.le_refl _) _
  have X : At V w.heap.size #[.int .u8 5, .int .i64 t, .int .u64 a, .int .u64 b] 30 := hV ▸ At.last w _ 30
  clear hV
  have x0 := bel_cell (X.cell 0 rfl)
  have x1 := bel_cell (X.cell 1 rfl)
  have x2 := bel_cell (X.cell 2 rfl)
  have x3 := bel_cell (X.cell 3 rfl)
  clear X
  by_cases ht : t < 0
  · have z1 : decide (t < 0) = true := decide_eq_true ht
    refine region_below (by kernel_rfl) (by kernel_rfl) ?_
    repeat (go_big_quiet_step ((go_at_call 21; exact below_same (bytes_nil _))))
    refine wpQuiet_nil ?_
    rintro w5 ⟨s, rfl⟩
    go_wp2_with fail
    go_ret2
    exact ⟨rfl, bnext hB s.2⟩
  · have h2 : (0 : Int) ≤ t := by omega
    have z1 : decide (t < 0) = false := decide_eq_false ht
    have z2 : decide ((0 : Int) ≤ t) = true := decide_eq_true h2
    have z3 : decide (t ≥ (0 : Int)) = true := decide_eq_true h2
    refine region_below (by kernel_rfl) (by kernel_rfl) ?_
    repeat (go_big_quiet_step ((go_at_call 21; exact below_same (bytes_nil _))))
    refine wpQuiet_nil ?_
    rintro w5 ⟨s, rfl⟩
    go_wp2_with fail
    go_ret2
    exact ⟨rfl, bnext hB s.2⟩
set_option maxHeartbeats 1000000 in
theorem do_nil6 (t a b : Int) (w : World) :
    Calls Try.prog 15 #[.pointer none, .agg #[.int .u8 6, .int .i64 t, .int .u64 a, .int .u64 b]] w fun e w' => e = .returned (.tuple #[.int .u64 0, .bool false]) ∧ Below w.heap.size w w' := by
  go_enter Try.func15, Try.ntmps15
  go_upto_region 13 with fail
  generalize hV : World.alloc w _ = V
  have hB : Below w.heap.size w V := hV ▸ (Below.refl _ w).alloc (Nat.le_refl _) _
  have X : At V w.heap.size #[.int .u8 6, .int .i64 t, .int .u64 a, .int .u64 b] 30 := hV ▸ At.last w _ 30
  clear hV
  have x0 := bel_cell (X.cell 0 rfl)
  have x1 := bel_cell (X.cell 1 rfl)
  have x2 := bel_cell (X.cell 2 rfl)
  have x3 := bel_cell (X.cell 3 rfl)
  clear X
  by_cases ht : t < 0
  · have z1 : decide (t < 0) = true := decide_eq_true ht
    refine region_below (by kernel_rfl) (by kernel_rfl) ?_
    repeat (go_big_quiet_step ((go_at_call 21; exact below_same (bytes_nil _))))
    refine wpQuiet_nil ?_
    rintro w5 ⟨s, rfl⟩
    go_wp2_with fail
    go_ret2
    exact ⟨rfl, bnext hB s.2⟩
  · have h2 : (0 : Int) ≤ t := by omega
    have z1 : decide (t < 0) = false := decide_eq_false ht
    have z2 : decide ((0 : Int) ≤ t) = true := decide_eq_true h2
    have z3 : decide (t ≥ (0 : Int)) = true := decide_eq_true h2
    refine region_below (by kernel_rfl) (by kernel_rfl) ?_
    repeat (go_big_quiet_step ((go_at_call 21; exact below_same (bytes_nil _))))
    refine wpQuiet_nil ?_
    rintro w5 ⟨s, rfl⟩
    go_wp2_with fail
    go_ret2
    exact ⟨rfl, bnext hB s.2⟩
end Go.Proofs.Ytmdagppeeejikaa
