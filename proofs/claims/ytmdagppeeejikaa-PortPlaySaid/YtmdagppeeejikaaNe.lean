/- Does: an access by a port, by its numbers. Condition: the numbers fit their kinds. -/
import Derived.Test.YtmdagppeeejikaaNc
import Derived.Deep.RegionWith
namespace Go.Proofs.Ytmdagppeeejikaa
open Go.RowKit
set_option linter.unusedVariables false
set_option linter.unusedSimpArgs false

theorem wD_b (W : List Int) (k t a b b' : Int) (h : k ≠ 3) : wD W k t a b = wD W k t a b' := by
  unfold wD; split
  · unfold nowW; simp [h]
  · rfl
theorem wD_1 (W : List Int) (t a b : Int) : wD W 1 t 0 0 = wD W 1 t a b := by
  unfold wD; split
  · simp [nowW]
  · rfl
theorem bD_15 (B : List Int) (k t a a' : Int) (h : k ≠ 6) : bD B k t a = bD B k t a' := by
  unfold bD; simp [h]
theorem wD_big (W : List Int) (k t a b a' b' : Int) (h : 5 ≤ k) : wD W k t a b = wD W k t a' b' := by
  unfold wD inW
  have : decide (k ≤ 4) = false := by simp; omega
  simp [this]
theorem bD_mod (B : List Int) (t a : Int) : bD B 6 t (a % 256) = bD B 6 t a := by
  unfold bD
  rw [show a % 256 % 256 = a % 256 from by omega]
theorem tD_15 (W B : List Int) (k t a a' : Int) (h : k = 1 ∨ k = 5) : tD W B k t a = tD W B k t a' := by
  rcases h with rfl | rfl
  · unfold tD toldW; simp
  · unfold tD; simp [inW]
theorem tD_26 (W B : List Int) (k t a : Int) (h : k = 2 ∨ k = 6) : tD W B k t a = 0 := by
  rcases h with rfl | rfl
  · unfold tD toldW; simp [inB]
  · unfold tD; simp [inW]
theorem tD_3 (W B : List Int) (t a : Int) : tD W B 3 t a = if (tD W B 3 t a == 1) = true then 1 else 0 := by
  unfold tD toldW
  simp [inB]
  split <;> split <;> simp_all
theorem tD_5 (W B : List Int) (t a : Int) (h : ∀ x ∈ B, 0 ≤ x ∧ x < 256) : IntKind.u8.wrap (tD W B 5 t a) = tD W B 5 t a ∧ 0 ≤ tD W B 5 t a ∧ tD W B 5 t a < 256 := by
  have e : tD W B 5 t a = if inB B 5 t then B.getD t.toNat 0 else 0 := by unfold tD; simp [inW]
  rw [e]
  have : 0 ≤ (if inB B 5 t then B.getD t.toNat 0 else 0) ∧ (if inB B 5 t then B.getD t.toNat 0 else 0) < 256 := by
    split
    · rename_i hb
      have hl : t.toNat < B.length := by simp [inB] at hb; omega
      exact getD_wf h _ hl
    · omega
  refine ⟨?_, this⟩
  show _ % 256 = _
  omega
/-- what an access leaves, with other numbers that say the same -/
theorem PDo.to {d ws m bw bb : Nat} {sf s : Int} {told : Value} {W B : List Int} {k t a b a' b' : Int} {w V w' : World} (h : PDo d ws m bw bb sf s told W B k t a b V w') (hb : Below w.heap.size w V) (e1 : wD W k t a b = wD W k t a' b') (e2 : bD B k t a = bD B k t a') : PDo d ws m bw bb sf s told W B k t a' b' w w' :=
  ⟨h.port, by rw [← e1, ← e2]; exact h.mem, (Ch.of_below hb).trans h.ch⟩

set_option maxHeartbeats 1000000 in
theorem does1 {d ws m bw bb : Nat} {sf s : Int} {told : Value} {W B : List Int} (t a b : Int) (w : World) (H : IsPort w d ws m sf s told) (M : IsMem w m bw bb W B) (s0 : 0 ≤ s) (s1 : s ≤ 1000000) (a0 : 0 ≤ a) (a1 : a < 18446744073709551616) (b0 : 0 ≤ b) (b1 : b < 18446744073709551616) :
    Calls Try.prog 32 #[.iface 49 (.pointer (some ⟨d, 0, none⟩)), .agg #[.int .u8 1, .int .i64 t, .int .u64 a, .int .u64 b]] w fun e w' => e = .returned (.int .u64 (tD W B 1 t a)) ∧ PDo d ws m bw bb sf s told W B 1 t a b w w' := by
  have hB : Below w.heap.size w (w.alloc (.cells #[.int .u8 1, .int .i64 t, .int .u64 a, .int .u64 b] 30)) := (Below.refl _ w).alloc (Nat.le_refl _) _
  have C := Lib.hid (p_load t (w.alloc (.cells #[.int .u8 1, .int .i64 t, .int .u64 a, .int .u64 b] 30)) (H.below hB) (M.below hB) s0 s1 )
  have F := Lib.hid (fun w' (h : PDo d ws m bw bb sf s told W B 1 t 0 0 (w.alloc (.cells #[.int .u8 1, .int .i64 t, .int .u64 a, .int .u64 b] 30)) w') => PDo.to (a' := a) (b' := b) h hB (wD_1 W t a b) (bD_15 B 1 t _ _ (by decide)))
  have X : At (w.alloc (.cells #[.int .u8 1, .int .i64 t, .int .u64 a, .int .u64 b] 30)) w.heap.size #[.int .u8 1, .int .i64 t, .int .u64 a, .int .u64 b] 30 := At.last w _ 30
  have T := Lib.hid (tD_15 W B 1 t a 0 (by decide))
  rw [T.out]
  clear T
  generalize tD W B 1 t 0 = y at *
  clear H M s0 s1 hB
  go_enter Try.func32, Try.ntmps32
  go_upto_region 3 with fail
  generalize World.alloc w _ = V at *
  have x0 := X.cell 0 rfl
  have x1 := X.cell 1 rfl
  have x2 := X.cell 2 rfl
  have x3 := X.cell 3 rfl
  clear X
  go_wp2_with fail
  refine C.out.mono ?_
  rintro e w1 ⟨rfl, D⟩
  replace D := Lib.hid (F.out _ D)
  clear C F x0 x1 x2 x3
  go_wp2_with fail
  go_ret
  exact ⟨rfl, D.out⟩

set_option maxHeartbeats 1000000 in
theorem does2 {d ws m bw bb : Nat} {sf s : Int} {told : Value} {W B : List Int} (t a b : Int) (w : World) (H : IsPort w d ws m sf s told) (M : IsMem w m bw bb W B) (s0 : 0 ≤ s) (s1 : s ≤ 1000000) (a0 : 0 ≤ a) (a1 : a < 18446744073709551616) (b0 : 0 ≤ b) (b1 : b < 18446744073709551616) :
    Calls Try.prog 32 #[.iface 49 (.pointer (some ⟨d, 0, none⟩)), .agg #[.int .u8 2, .int .i64 t, .int .u64 a, .int .u64 b]] w fun e w' => e = .returned (.int .u64 (tD W B 2 t a)) ∧ PDo d ws m bw bb sf s told W B 2 t a b w w' := by
  have hB : Below w.heap.size w (w.alloc (.cells #[.int .u8 2, .int .i64 t, .int .u64 a, .int .u64 b] 30)) := (Below.refl _ w).alloc (Nat.le_refl _) _
  have C := Lib.hid (p_store t a (w.alloc (.cells #[.int .u8 2, .int .i64 t, .int .u64 a, .int .u64 b] 30)) (H.below hB) (M.below hB) s0 s1 a0 a1)
  have F := Lib.hid (fun w' (h : PDo d ws m bw bb sf s told W B 2 t a 0 (w.alloc (.cells #[.int .u8 2, .int .i64 t, .int .u64 a, .int .u64 b] 30)) w') => PDo.to (a' := a) (b' := b) h hB (wD_b W 2 t a _ _ (by decide)) (rfl))
  have X : At (w.alloc (.cells #[.int .u8 2, .int .i64 t, .int .u64 a, .int .u64 b] 30)) w.heap.size #[.int .u8 2, .int .i64 t, .int .u64 a, .int .u64 b] 30 := At.last w _ 30
  have T := Lib.hid (tD_26 W B 2 t a (by decide))
  have C := C
  rw [T.out]
  clear H M s0 s1 hB
  go_enter Try.func32, Try.ntmps32
  go_upto_region 5 with fail
  generalize World.alloc w _ = V at *
  have x0 := X.cell 0 rfl
  have x1 := X.cell 1 rfl
  have x2 := X.cell 2 rfl
  have x3 := X.cell 3 rfl
  clear X
  go_wp2_with fail
  refine C.out.mono ?_
  rintro e w1 ⟨rfl, D⟩
  replace D := Lib.hid (F.out _ D)
  clear C F x0 x1 x2 x3
  go_wp2_with fail
  go_ret
  exact ⟨rfl, D.out⟩

set_option maxHeartbeats 1000000 in
theorem does3 {d ws m bw bb : Nat} {sf s : Int} {told : Value} {W B : List Int} (t a b : Int) (w : World) (H : IsPort w d ws m sf s told) (M : IsMem w m bw bb W B) (s0 : 0 ≤ s) (s1 : s ≤ 1000000) (a0 : 0 ≤ a) (a1 : a < 18446744073709551616) (b0 : 0 ≤ b) (b1 : b < 18446744073709551616) :
    Calls Try.prog 32 #[.iface 49 (.pointer (some ⟨d, 0, none⟩)), .agg #[.int .u8 3, .int .i64 t, .int .u64 a, .int .u64 b]] w fun e w' => e = .returned (.int .u64 (tD W B 3 t a)) ∧ PDo d ws m bw bb sf s told W B 3 t a b w w' := by
  have hB : Below w.heap.size w (w.alloc (.cells #[.int .u8 3, .int .i64 t, .int .u64 a, .int .u64 b] 30)) := (Below.refl _ w).alloc (Nat.le_refl _) _
  have C := Lib.hid (p_cas t a b (w.alloc (.cells #[.int .u8 3, .int .i64 t, .int .u64 a, .int .u64 b] 30)) (H.below hB) (M.below hB) s0 s1 a0 a1 b0 b1)
  have F := Lib.hid (fun w' (h : PDo d ws m bw bb sf s told W B 3 t a b (w.alloc (.cells #[.int .u8 3, .int .i64 t, .int .u64 a, .int .u64 b] 30)) w') => PDo.to (a' := a) (b' := b) h hB (rfl) (rfl))
  have X : At (w.alloc (.cells #[.int .u8 3, .int .i64 t, .int .u64 a, .int .u64 b] 30)) w.heap.size #[.int .u8 3, .int .i64 t, .int .u64 a, .int .u64 b] 30 := At.last w _ 30
  have T := Lib.hid (tD_3 W B t a)
  generalize tD W B 3 t a = y at *
  clear H M s0 s1 hB
  go_enter Try.func32, Try.ntmps32
  go_upto_region 7 with fail
  generalize World.alloc w _ = V at *
  have x0 := X.cell 0 rfl
  have x1 := X.cell 1 rfl
  have x2 := X.cell 2 rfl
  have x3 := X.cell 3 rfl
  clear X
  go_wp2_with fail
  refine C.out.mono ?_
  rintro e w1 ⟨rfl, D⟩
  replace D := Lib.hid (F.out _ D)
  clear C F x0 x1 x2 x3
  by_cases hy : (y == 1) = true
  · rw [hy]
    have T := T.out
    rw [hy, if_pos rfl] at T
    clear hy
    go_wp2_with fail
    go_ret
    exact ⟨by rw [T]; rfl, D.out⟩
  · have hy : (y == 1) = false := by simpa using hy
    rw [hy]
    have T := T.out
    rw [hy, if_neg (by decide)] at T
    clear hy
    go_wp2_with fail
    go_ret
    exact ⟨by rw [T]; rfl, D.out⟩

set_option maxHeartbeats 1000000 in
theorem does4 {d ws m bw bb : Nat} {sf s : Int} {told : Value} {W B : List Int} (t a b : Int) (w : World) (H : IsPort w d ws m sf s told) (M : IsMem w m bw bb W B) (s0 : 0 ≤ s) (s1 : s ≤ 1000000) (a0 : 0 ≤ a) (a1 : a < 18446744073709551616) (b0 : 0 ≤ b) (b1 : b < 18446744073709551616) :
    Calls Try.prog 32 #[.iface 49 (.pointer (some ⟨d, 0, none⟩)), .agg #[.int .u8 4, .int .i64 t, .int .u64 a, .int .u64 b]] w fun e w' => e = .returned (.int .u64 (tD W B 4 t a)) ∧ PDo d ws m bw bb sf s told W B 4 t a b w w' := by
  have hB : Below w.heap.size w (w.alloc (.cells #[.int .u8 4, .int .i64 t, .int .u64 a, .int .u64 b] 30)) := (Below.refl _ w).alloc (Nat.le_refl _) _
  have C := Lib.hid (p_add t a (w.alloc (.cells #[.int .u8 4, .int .i64 t, .int .u64 a, .int .u64 b] 30)) (H.below hB) (M.below hB) s0 s1 a0 a1)
  have F := Lib.hid (fun w' (h : PDo d ws m bw bb sf s told W B 4 t a 0 (w.alloc (.cells #[.int .u8 4, .int .i64 t, .int .u64 a, .int .u64 b] 30)) w') => PDo.to (a' := a) (b' := b) h hB (wD_b W 4 t a _ _ (by decide)) (rfl))
  have X : At (w.alloc (.cells #[.int .u8 4, .int .i64 t, .int .u64 a, .int .u64 b] 30)) w.heap.size #[.int .u8 4, .int .i64 t, .int .u64 a, .int .u64 b] 30 := At.last w _ 30
  generalize tD W B 4 t a = y at *
  clear H M s0 s1 hB
  go_enter Try.func32, Try.ntmps32
  go_upto_region 10 with fail
  generalize World.alloc w _ = V at *
  have x0 := X.cell 0 rfl
  have x1 := X.cell 1 rfl
  have x2 := X.cell 2 rfl
  have x3 := X.cell 3 rfl
  clear X
  go_wp2_with fail
  refine C.out.mono ?_
  rintro e w1 ⟨rfl, D⟩
  replace D := Lib.hid (F.out _ D)
  clear C F x0 x1 x2 x3
  go_wp2_with fail
  go_ret
  exact ⟨rfl, D.out⟩

set_option maxHeartbeats 1000000 in
theorem does5 {d ws m bw bb : Nat} {sf s : Int} {told : Value} {W B : List Int} (t a b : Int) (w : World) (H : IsPort w d ws m sf s told) (M : IsMem w m bw bb W B) (s0 : 0 ≤ s) (s1 : s ≤ 1000000) (a0 : 0 ≤ a) (a1 : a < 18446744073709551616) (b0 : 0 ≤ b) (b1 : b < 18446744073709551616) :
    Calls Try.prog 32 #[.iface 49 (.pointer (some ⟨d, 0, none⟩)), .agg #[.int .u8 5, .int .i64 t, .int .u64 a, .int .u64 b]] w fun e w' => e = .returned (.int .u64 (tD W B 5 t a)) ∧ PDo d ws m bw bb sf s told W B 5 t a b w w' := by
  have hB : Below w.heap.size w (w.alloc (.cells #[.int .u8 5, .int .i64 t, .int .u64 a, .int .u64 b] 30)) := (Below.refl _ w).alloc (Nat.le_refl _) _
  have C := Lib.hid (p_get t (w.alloc (.cells #[.int .u8 5, .int .i64 t, .int .u64 a, .int .u64 b] 30)) (H.below hB) (M.below hB) s0 s1 )
  have F := Lib.hid (fun w' (h : PDo d ws m bw bb sf s told W B 5 t 0 0 (w.alloc (.cells #[.int .u8 5, .int .i64 t, .int .u64 a, .int .u64 b] 30)) w') => PDo.to (a' := a) (b' := b) h hB (wD_big W 5 t _ _ _ _ (by decide)) (bD_15 B 5 t _ _ (by decide)))
  have X : At (w.alloc (.cells #[.int .u8 5, .int .i64 t, .int .u64 a, .int .u64 b] 30)) w.heap.size #[.int .u8 5, .int .i64 t, .int .u64 a, .int .u64 b] 30 := At.last w _ 30
  have T := Lib.hid (tD_15 W B 5 t a 0 (by decide))
  have T5 := tD_5 W B t 0 M.bwf
  obtain ⟨T5, T6, T7⟩ := T5
  rw [T5] at C
  rw [T.out]
  clear T
  generalize tD W B 5 t 0 = y at *
  clear H M s0 s1 hB
  go_enter Try.func32, Try.ntmps32
  go_upto_region 12 with fail
  generalize World.alloc w _ = V at *
  have x0 := X.cell 0 rfl
  have x1 := X.cell 1 rfl
  have x2 := X.cell 2 rfl
  have x3 := X.cell 3 rfl
  clear X
  go_wp2_with fail
  refine C.out.mono ?_
  rintro e w1 ⟨rfl, D⟩
  replace D := Lib.hid (F.out _ D)
  clear C F x0 x1 x2 x3
  go_wp2_with fail
  go_ret
  exact ⟨rfl, D.out⟩

set_option maxHeartbeats 1000000 in
theorem does6 {d ws m bw bb : Nat} {sf s : Int} {told : Value} {W B : List Int} (t a b : Int) (w : World) (H : IsPort w d ws m sf s told) (M : IsMem w m bw bb W B) (s0 : 0 ≤ s) (s1 : s ≤ 1000000) (a0 : 0 ≤ a) (a1 : a < 18446744073709551616) (b0 : 0 ≤ b) (b1 : b < 18446744073709551616) :
    Calls Try.prog 32 #[.iface 49 (.pointer (some ⟨d, 0, none⟩)), .agg #[.int .u8 6, .int .i64 t, .int .u64 a, .int .u64 b]] w fun e w' => e = .returned (.int .u64 (tD W B 6 t a)) ∧ PDo d ws m bw bb sf s told W B 6 t a b w w' := by
  have hB : Below w.heap.size w (w.alloc (.cells #[.int .u8 6, .int .i64 t, .int .u64 a, .int .u64 b] 30)) := (Below.refl _ w).alloc (Nat.le_refl _) _
  have C := Lib.hid (p_put t (a % 256) (w.alloc (.cells #[.int .u8 6, .int .i64 t, .int .u64 a, .int .u64 b] 30)) (H.below hB) (M.below hB) s0 s1 (by omega) (by omega))
  have F := Lib.hid (fun w' (h : PDo d ws m bw bb sf s told W B 6 t (a % 256) 0 (w.alloc (.cells #[.int .u8 6, .int .i64 t, .int .u64 a, .int .u64 b] 30)) w') => PDo.to (a' := a) (b' := b) h hB (wD_big W 6 t _ _ _ _ (by decide)) (bD_mod B t a))
  have X : At (w.alloc (.cells #[.int .u8 6, .int .i64 t, .int .u64 a, .int .u64 b] 30)) w.heap.size #[.int .u8 6, .int .i64 t, .int .u64 a, .int .u64 b] 30 := At.last w _ 30
  have T := Lib.hid (tD_26 W B 6 t a (by decide))
  have C := C
  rw [T.out]
  clear H M s0 s1 hB
  go_enter Try.func32, Try.ntmps32
  go_upto_region 14 with fail
  generalize World.alloc w _ = V at *
  have x0 := X.cell 0 rfl
  have x1 := X.cell 1 rfl
  have x2 := X.cell 2 rfl
  have x3 := X.cell 3 rfl
  clear X
  go_wp2_with fail
  refine C.out.mono ?_
  rintro e w1 ⟨rfl, D⟩
  replace D := Lib.hid (F.out _ D)
  clear C F x0 x1 x2 x3
  go_wp2_with fail
  go_ret
  exact ⟨rfl, D.out⟩

set_option maxHeartbeats 1000000 in
theorem does0 (v : Value) (k t a b : Int) (w : World) (k0 : 0 ≤ k) (k1 : k ≤ 255) (h : k < 1 ∨ 6 < k) :
    Calls Try.prog 32 #[v, .agg #[.int .u8 k, .int .i64 t, .int .u64 a, .int .u64 b]] w fun e w' => e = .returned (.int .u64 0) ∧ Below w.heap.size w w' := by
  have z1 : (k == 1) = false := by simp; omega
  have z2 : (k == 2) = false := by simp; omega
  have z3 : (k == 3) = false := by simp; omega
  have z4 : (k == 4) = false := by simp; omega
  have z5 : (k == 5) = false := by simp; omega
  have z6 : (k == 6) = false := by simp; omega
  clear h
  go_enter Try.func32, Try.ntmps32
  go_wp2_with fail
  go_ret
  exact ⟨rfl, (Below.refl _ w).alloc (Nat.le_refl _) _⟩

set_option maxHeartbeats 1000000 in
theorem is_any (k t a b : Int) (w : World) (k0 : 0 ≤ k) (k1 : k ≤ 255) :
    Calls Try.prog 31 #[.agg #[.int .u8 k, .int .i64 t, .int .u64 a, .int .u64 b]] w fun e w' => e = .returned (.bool (decide (1 ≤ k ∧ k ≤ 6))) ∧ Below w.heap.size w w' := by
  by_cases h1 : 1 ≤ k
  · by_cases h6 : k ≤ 6
    · rw [decide_eq_true (show 1 ≤ k ∧ k ≤ 6 from ⟨h1, h6⟩)]
      go_enter Try.func31, Try.ntmps31
      go_wp2_with fail
      go_ret
      exact ⟨by simp [h1, h6], (Below.refl _ w).alloc (Nat.le_refl _) _⟩
    · rw [decide_eq_false (show ¬ (1 ≤ k ∧ k ≤ 6) by omega)]
      go_enter Try.func31, Try.ntmps31
      go_wp2_with fail
      go_ret
      exact ⟨by simp [h1, h6], (Below.refl _ w).alloc (Nat.le_refl _) _⟩
  · rw [decide_eq_false (show ¬ (1 ≤ k ∧ k ≤ 6) by omega)]
    go_enter Try.func31, Try.ntmps31
    go_wp2_with fail
    go_ret
    exact ⟨by simp [h1], (Below.refl _ w).alloc (Nat.le_refl _) _⟩

theorem does_any {d ws m bw bb : Nat} {sf s : Int} {told : Value} {W B : List Int} (k t a b : Int) (w : World) (H : IsPort w d ws m sf s told) (M : IsMem w m bw bb W B) (s0 : 0 ≤ s) (s1 : s ≤ 1000000) (k0 : 1 ≤ k) (k1 : k ≤ 6) (a0 : 0 ≤ a) (a1 : a < 18446744073709551616) (b0 : 0 ≤ b) (b1 : b < 18446744073709551616) :
    Calls Try.prog 32 #[.iface 49 (.pointer (some ⟨d, 0, none⟩)), .agg #[.int .u8 k, .int .i64 t, .int .u64 a, .int .u64 b]] w fun e w' => e = .returned (.int .u64 (tD W B k t a)) ∧ PDo d ws m bw bb sf s told W B k t a b w w' := by
  rcases (show k = 1 ∨ k = 2 ∨ k = 3 ∨ k = 4 ∨ k = 5 ∨ k = 6 by omega) with rfl | rfl | rfl | rfl | rfl | rfl
  · exact does1 t a b w H M s0 s1 a0 a1 b0 b1
  · exact does2 t a b w H M s0 s1 a0 a1 b0 b1
  · exact does3 t a b w H M s0 s1 a0 a1 b0 b1
  · exact does4 t a b w H M s0 s1 a0 a1 b0 b1
  · exact does5 t a b w H M s0 s1 a0 a1 b0 b1
  · exact does6 t a b w H M s0 s1 a0 a1 b0 b1
end Go.Proofs.Ytmdagppeeejikaa
