/- The reference's Do (quilletref03), where nothing is done. Condition: the numbers fit their kinds. -/
import Derived.Test.YtmdagppeeejikaaMr
namespace Go.Proofs.Ytmdagppeeejikaa
open Go.RowKit
set_option linter.unusedVariables false

set_option maxRecDepth 100000 in
set_option maxHeartbeats 1000000 in
theorem ref_none (base : Nat) (v1 v2 : Value) (W B : List Int) (w : World) (R : Ref w base v1 v2 W B) (hb : base ≤ w.heap.size) (l1 : W.length ≤ 2097152) (l2 : B.length ≤ 1048576) (k t a b : Int) (k0 : 0 ≤ k) (k1 : k ≤ 255) (h : k < 1 ∨ 6 < k) : Calls Try.prog 22 #[.agg #[v1, v2], .agg #[.int .u8 k, .int .i64 t, .int .u64 a, .int .u64 b]] w (RefDo base W B k t a b w) := by
  have hw0 : inW W k t = false := by simp [inW]; omega
  have hb0 : inB B k t = false := by simp [inB]; omega
  have HO := Lib.hid (show okD W B k t = false from by simp [okD, hw0, hb0])
  have HT := Lib.hid (show tD W B k t a = 0 from by simp [tD, hw0, hb0])
  have HW := Lib.hid (show wD W k t a b = W from by simp [wD, hw0])
  have HBB := Lib.hid (show bD B k t a = B from by simp [bD, hb0])
  clear hw0 hb0
  have z5 : (k == 5) = false := by simp; omega
  have z6 : (k == 6) = false := by simp; omega
  obtain ⟨a1, c1, rfl⟩ := own_shape R.words
  obtain ⟨a2, c2, rfl⟩ := own_shape R.bytes
  have n1 := fun k hk => (R.words.lt k hk).2
  have n2 := fun k hk => (R.bytes.lt k hk).2
  have N1 := Lib.hid n1
  have N2 := Lib.hid n2
  clear n1 n2
  go_enter Try.func22, Try.ntmps22
  go_upto_region 1 with fail
  generalize hV : World.alloc (World.alloc (World.alloc w _) _) _ = V
  have hB : Below w.heap.size w V := hV ▸ al3_b w _ _ _
  have AM : At V w.heap.size #[.slice a1 W.length c1, .slice a2 B.length c2] 41 := hV ▸ al3_0 w _ _ _
  have AX : At V (w.heap.size + 1) #[.int .u8 k, .int .i64 t, .int .u64 a, .int .u64 b] 30 := hV ▸ al3_1 w _ _ _
  have AR : At V (w.heap.size + 1 + 1) #[.slice none 0 0, .slice none 0 0] 41 := hV ▸ al3_2 w _ _ _
  have R' := R.below hB
  clear hV R
  have m0 := AM.cell 0 rfl
  have m1 := AM.cell 1 rfl
  have x0 := AX.cell 0 rfl
  have x1 := AX.cell 1 rfl
  have x2 := AX.cell 2 rfl
  have x3 := AX.cell 3 rfl
  by_cases hk : k < 1
  · clear h
    go_wp2_with (refine wpList_store_row rfl 41 (.tmp 4) (.tmp 79) rfl (w.heap.size + 1 + 1) #[.slice a1 W.length c1, .slice a2 B.length c2] rfl rfl 41 _ AR (info41 _ _) rfl (one41 _ _ _ _ _ _) ?_)
    refine bodyPost_ret (results_row_tmp2 (p := 4) (u := 5) (u' := 6) (ty := 41) rfl _ _ (w.heap.size + 1 + 1) 41 #[.slice a1 W.length c1, .slice a2 B.length c2] (0, 0) _ _ _ rfl rfl rfl (setRow_heap _ _ _ _ _ _ AR) Try.underlying41 rfl (info41 _ _)) rfl ?_
    exact ⟨_, _, by rw [HT.out, HO.out]; rfl, by rw [HW.out, HBB.out]; exact R'.setRow _ _ (fun k hk => by have := N1.out k hk; omega) (fun k hk => by have := N2.out k hk; omega), below_setRow hB (by omega) _⟩
  · have hk2 : 6 < k := by omega
    clear h
    go_wp2_with (refine wpList_store_row rfl 41 (.tmp 4) (.tmp 79) rfl (w.heap.size + 1 + 1) #[.slice a1 W.length c1, .slice a2 B.length c2] rfl rfl 41 _ AR (info41 _ _) rfl (one41 _ _ _ _ _ _) ?_)
    refine bodyPost_ret (results_row_tmp2 (p := 4) (u := 5) (u' := 6) (ty := 41) rfl _ _ (w.heap.size + 1 + 1) 41 #[.slice a1 W.length c1, .slice a2 B.length c2] (0, 0) _ _ _ rfl rfl rfl (setRow_heap _ _ _ _ _ _ AR) Try.underlying41 rfl (info41 _ _)) rfl ?_
    exact ⟨_, _, by rw [HT.out, HO.out]; rfl, by rw [HW.out, HBB.out]; exact R'.setRow _ _ (fun k hk => by have := N1.out k hk; omega) (fun k hk => by have := N2.out k hk; omega), below_setRow hB (by omega) _⟩
set_option maxRecDepth 100000 in
set_option maxHeartbeats 1000000 in
theorem ref_out5 (base : Nat) (v1 v2 : Value) (W B : List Int) (w : World) (R : Ref w base v1 v2 W B) (hb : base ≤ w.heap.size) (l1 : W.length ≤ 2097152) (l2 : B.length ≤ 1048576) (t a b : Int) (h : t < 0 ∨ (B.length : Int) ≤ t) : Calls Try.prog 22 #[.agg #[v1, v2], .agg #[.int .u8 5, .int .i64 t, .int .u64 a, .int .u64 b]] w (RefDo base W B 5 t a b w) := by
  have hw0 : inW W 5 t = false := by simp [inW]
  have hb0 : inB B 5 t = false := by simp [inB]; omega
  have HO := Lib.hid (show okD W B 5 t = false from by simp [okD, hw0, hb0])
  have HT := Lib.hid (show tD W B 5 t a = 0 from by simp [tD, hw0, hb0])
  have HW := Lib.hid (show wD W 5 t a b = W from by simp [wD, hw0])
  have HBB := Lib.hid (show bD B 5 t a = B from by simp [bD, hb0])
  clear hw0 hb0
  obtain ⟨a1, c1, rfl⟩ := own_shape R.words
  obtain ⟨a2, c2, rfl⟩ := own_shape R.bytes
  have n1 := fun k hk => (R.words.lt k hk).2
  have n2 := fun k hk => (R.bytes.lt k hk).2
  have N1 := Lib.hid n1
  have N2 := Lib.hid n2
  clear n1 n2
  go_enter Try.func22, Try.ntmps22
  go_upto_region 1 with fail
  generalize hV : World.alloc (World.alloc (World.alloc w _) _) _ = V
  have hB : Below w.heap.size w V := hV ▸ al3_b w _ _ _
  have AM : At V w.heap.size #[.slice a1 W.length c1, .slice a2 B.length c2] 41 := hV ▸ al3_0 w _ _ _
  have AX : At V (w.heap.size + 1) #[.int .u8 5, .int .i64 t, .int .u64 a, .int .u64 b] 30 := hV ▸ al3_1 w _ _ _
  have AR : At V (w.heap.size + 1 + 1) #[.slice none 0 0, .slice none 0 0] 41 := hV ▸ al3_2 w _ _ _
  have R' := R.below hB
  clear hV R
  have m0 := AM.cell 0 rfl
  have m1 := AM.cell 1 rfl
  have x0 := AX.cell 0 rfl
  have x1 := AX.cell 1 rfl
  have x2 := AX.cell 2 rfl
  have x3 := AX.cell 3 rfl
  by_cases ht : t < 0
  · clear h
    go_wp2_with (refine wpList_store_row rfl 41 (.tmp 4) (.tmp 30) rfl (w.heap.size + 1 + 1) #[.slice a1 W.length c1, .slice a2 B.length c2] rfl rfl 41 _ AR (info41 _ _) rfl (one41 _ _ _ _ _ _) ?_)
    refine bodyPost_ret (results_row_tmp2 (p := 4) (u := 5) (u' := 6) (ty := 41) rfl _ _ (w.heap.size + 1 + 1) 41 #[.slice a1 W.length c1, .slice a2 B.length c2] (0, 0) _ _ _ rfl rfl rfl (setRow_heap _ _ _ _ _ _ AR) Try.underlying41 rfl (info41 _ _)) rfl ?_
    exact ⟨_, _, by rw [HT.out, HO.out]; rfl, by rw [HW.out, HBB.out]; exact R'.setRow _ _ (fun k hk => by have := N1.out k hk; omega) (fun k hk => by have := N2.out k hk; omega), below_setRow hB (by omega) _⟩
  · have ht2 : (B.length : Int) ≤ t := by omega
    clear h
    go_wp2_with (refine wpList_store_row rfl 41 (.tmp 4) (.tmp 30) rfl (w.heap.size + 1 + 1) #[.slice a1 W.length c1, .slice a2 B.length c2] rfl rfl 41 _ AR (info41 _ _) rfl (one41 _ _ _ _ _ _) ?_)
    refine bodyPost_ret (results_row_tmp2 (p := 4) (u := 5) (u' := 6) (ty := 41) rfl _ _ (w.heap.size + 1 + 1) 41 #[.slice a1 W.length c1, .slice a2 B.length c2] (0, 0) _ _ _ rfl rfl rfl (setRow_heap _ _ _ _ _ _ AR) Try.underlying41 rfl (info41 _ _)) rfl ?_
    exact ⟨_, _, by rw [HT.out, HO.out]; rfl, by rw [HW.out, HBB.out]; exact R'.setRow _ _ (fun k hk => by have := N1.out k hk; omega) (fun k hk => by have := N2.out k hk; omega), below_setRow hB (by omega) _⟩
set_option maxRecDepth 100000 in
set_option maxHeartbeats 1000000 in
theorem ref_out6 (base : Nat) (v1 v2 : Value) (W B : List Int) (w : World) (R : Ref w base v1 v2 W B) (hb : base ≤ w.heap.size) (l1 : W.length ≤ 2097152) (l2 : B.length ≤ 1048576) (t a b : Int) (h : t < 0 ∨ (B.length : Int) ≤ t) : Calls Try.prog 22 #[.agg #[v1, v2], .agg #[.int .u8 6, .int .i64 t, .int .u64 a, .int .u64 b]] w (RefDo base W B 6 t a b w) := by
  have hw0 : inW W 6 t = false := by simp [inW]
  have hb0 : inB B 6 t = false := by simp [inB]; omega
  have HO := Lib.hid (show okD W B 6 t = false from by simp [okD, hw0, hb0])
  have HT := Lib.hid (show tD W B 6 t a = 0 from by simp [tD, hw0, hb0])
  have HW := Lib.hid (show wD W 6 t a b = W from by simp [wD, hw0])
  have HBB := Lib.hid (show bD B 6 t a = B from by simp [bD, hb0])
  clear hw0 hb0
  obtain ⟨a1, c1, rfl⟩ := own_shape R.words
  obtain ⟨a2, c2, rfl⟩ := own_shape R.bytes
  have n1 := fun k hk => (R.words.lt k hk).2
  have n2 := fun k hk => (R.bytes.lt k hk).2
  have N1 := Lib.hid n1
  have N2 := Lib.hid n2
  clear n1 n2
  go_enter Try.func22, Try.ntmps22
  go_upto_region 1 with fail
  generalize hV : World.alloc (World.alloc (World.alloc w _) _) _ = V
  have hB : Below w.heap.size w V := hV ▸ al3_b w _ _ _
  have AM : At V w.heap.size #[.slice a1 W.length c1, .slice a2 B.length c2] 41 := hV ▸ al3_0 w _ _ _
  have AX : At V (w.heap.size + 1) #[.int .u8 6, .int .i64 t, .int .u64 a, .int .u64 b] 30 := hV ▸ al3_1 w _ _ _
  have AR : At V (w.heap.size + 1 + 1) #[.slice none 0 0, .slice none 0 0] 41 := hV ▸ al3_2 w _ _ _
  have R' := R.below hB
  clear hV R
  have m0 := AM.cell 0 rfl
  have m1 := AM.cell 1 rfl
  have x0 := AX.cell 0 rfl
  have x1 := AX.cell 1 rfl
  have x2 := AX.cell 2 rfl
  have x3 := AX.cell 3 rfl
  by_cases ht : t < 0
  · clear h
    go_wp2_with (refine wpList_store_row rfl 41 (.tmp 4) (.tmp 30) rfl (w.heap.size + 1 + 1) #[.slice a1 W.length c1, .slice a2 B.length c2] rfl rfl 41 _ AR (info41 _ _) rfl (one41 _ _ _ _ _ _) ?_)
    refine bodyPost_ret (results_row_tmp2 (p := 4) (u := 5) (u' := 6) (ty := 41) rfl _ _ (w.heap.size + 1 + 1) 41 #[.slice a1 W.length c1, .slice a2 B.length c2] (0, 0) _ _ _ rfl rfl rfl (setRow_heap _ _ _ _ _ _ AR) Try.underlying41 rfl (info41 _ _)) rfl ?_
    exact ⟨_, _, by rw [HT.out, HO.out]; rfl, by rw [HW.out, HBB.out]; exact R'.setRow _ _ (fun k hk => by have := N1.out k hk; omega) (fun k hk => by have := N2.out k hk; omega), below_setRow hB (by omega) _⟩
  · have ht2 : (B.length : Int) ≤ t := by omega
    clear h
    go_wp2_with (refine wpList_store_row rfl 41 (.tmp 4) (.tmp 30) rfl (w.heap.size + 1 + 1) #[.slice a1 W.length c1, .slice a2 B.length c2] rfl rfl 41 _ AR (info41 _ _) rfl (one41 _ _ _ _ _ _) ?_)
    refine bodyPost_ret (results_row_tmp2 (p := 4) (u := 5) (u' := 6) (ty := 41) rfl _ _ (w.heap.size + 1 + 1) 41 #[.slice a1 W.length c1, .slice a2 B.length c2] (0, 0) _ _ _ rfl rfl rfl (setRow_heap _ _ _ _ _ _ AR) Try.underlying41 rfl (info41 _ _)) rfl ?_
    exact ⟨_, _, by rw [HT.out, HO.out]; rfl, by rw [HW.out, HBB.out]; exact R'.setRow _ _ (fun k hk => by have := N1.out k hk; omega) (fun k hk => by have := N2.out k hk; omega), below_setRow hB (by omega) _⟩
set_option maxRecDepth 100000 in
set_option maxHeartbeats 1000000 in
theorem ref_out1 (base : Nat) (v1 v2 : Value) (W B : List Int) (w : World) (R : Ref w base v1 v2 W B) (hb : base ≤ w.heap.size) (l1 : W.length ≤ 2097152) (l2 : B.length ≤ 1048576) (t a b : Int) (h : t < 0 ∨ (W.length : Int) ≤ t) : Calls Try.prog 22 #[.agg #[v1, v2], .agg #[.int .u8 1, .int .i64 t, .int .u64 a, .int .u64 b]] w (RefDo base W B 1 t a b w) := by
  have hw0 : inW W 1 t = false := by simp [inW]; omega
  have hb0 : inB B 1 t = false := by simp [inB]
  have HO := Lib.hid (show okD W B 1 t = false from by simp [okD, hw0, hb0])
  have HT := Lib.hid (show tD W B 1 t a = 0 from by simp [tD, hw0, hb0])
  have HW := Lib.hid (show wD W 1 t a b = W from by simp [wD, hw0])
  have HBB := Lib.hid (show bD B 1 t a = B from by simp [bD, hb0])
  clear hw0 hb0
  obtain ⟨a1, c1, rfl⟩ := own_shape R.words
  obtain ⟨a2, c2, rfl⟩ := own_shape R.bytes
  have n1 := fun k hk => (R.words.lt k hk).2
  have n2 := fun k hk => (R.bytes.lt k hk).2
  have N1 := Lib.hid n1
  have N2 := Lib.hid n2
  clear n1 n2
  go_enter Try.func22, Try.ntmps22
  go_upto_region 1 with fail
  generalize hV : World.alloc (World.alloc (World.alloc w _) _) _ = V
  have hB : Below w.heap.size w V := hV ▸ al3_b w _ _ _
  have AM : At V w.heap.size #[.slice a1 W.length c1, .slice a2 B.length c2] 41 := hV ▸ al3_0 w _ _ _
  have AX : At V (w.heap.size + 1) #[.int .u8 1, .int .i64 t, .int .u64 a, .int .u64 b] 30 := hV ▸ al3_1 w _ _ _
  have AR : At V (w.heap.size + 1 + 1) #[.slice none 0 0, .slice none 0 0] 41 := hV ▸ al3_2 w _ _ _
  have R' := R.below hB
  clear hV R
  have m0 := AM.cell 0 rfl
  have m1 := AM.cell 1 rfl
  have x0 := AX.cell 0 rfl
  have x1 := AX.cell 1 rfl
  have x2 := AX.cell 2 rfl
  have x3 := AX.cell 3 rfl
  by_cases ht : t < 0
  · clear h
    go_wp2_with (refine wpList_store_row rfl 41 (.tmp 4) (.tmp 79) rfl (w.heap.size + 1 + 1) #[.slice a1 W.length c1, .slice a2 B.length c2] rfl rfl 41 _ AR (info41 _ _) rfl (one41 _ _ _ _ _ _) ?_)
    refine bodyPost_ret (results_row_tmp2 (p := 4) (u := 5) (u' := 6) (ty := 41) rfl _ _ (w.heap.size + 1 + 1) 41 #[.slice a1 W.length c1, .slice a2 B.length c2] (0, 0) _ _ _ rfl rfl rfl (setRow_heap _ _ _ _ _ _ AR) Try.underlying41 rfl (info41 _ _)) rfl ?_
    exact ⟨_, _, by rw [HT.out, HO.out]; rfl, by rw [HW.out, HBB.out]; exact R'.setRow _ _ (fun k hk => by have := N1.out k hk; omega) (fun k hk => by have := N2.out k hk; omega), below_setRow hB (by omega) _⟩
  · have ht2 : (W.length : Int) ≤ t := by omega
    clear h
    go_wp2_with (refine wpList_store_row rfl 41 (.tmp 4) (.tmp 79) rfl (w.heap.size + 1 + 1) #[.slice a1 W.length c1, .slice a2 B.length c2] rfl rfl 41 _ AR (info41 _ _) rfl (one41 _ _ _ _ _ _) ?_)
    refine bodyPost_ret (results_row_tmp2 (p := 4) (u := 5) (u' := 6) (ty := 41) rfl _ _ (w.heap.size + 1 + 1) 41 #[.slice a1 W.length c1, .slice a2 B.length c2] (0, 0) _ _ _ rfl rfl rfl (setRow_heap _ _ _ _ _ _ AR) Try.underlying41 rfl (info41 _ _)) rfl ?_
    exact ⟨_, _, by rw [HT.out, HO.out]; rfl, by rw [HW.out, HBB.out]; exact R'.setRow _ _ (fun k hk => by have := N1.out k hk; omega) (fun k hk => by have := N2.out k hk; omega), below_setRow hB (by omega) _⟩
set_option maxRecDepth 100000 in
set_option maxHeartbeats 1000000 in
theorem ref_out2 (base : Nat) (v1 v2 : Value) (W B : List Int) (w : World) (R : Ref w base v1 v2 W B) (hb : base ≤ w.heap.size) (l1 : W.length ≤ 2097152) (l2 : B.length ≤ 1048576) (t a b : Int) (h : t < 0 ∨ (W.length : Int) ≤ t) : Calls Try.prog 22 #[.agg #[v1, v2], .agg #[.int .u8 2, .int .i64 t, .int .u64 a, .int .u64 b]] w (RefDo base W B 2 t a b w) := by
  have hw0 : inW W 2 t = false := by simp [inW]; omega
  have hb0 : inB B 2 t = false := by simp [inB]
  have HO := Lib.hid (show okD W B 2 t = false from by simp [okD, hw0, hb0])
  have HT := Lib.hid (show tD W B 2 t a = 0 from by simp [tD, hw0, hb0])
  have HW := Lib.hid (show wD W 2 t a b = W from by simp [wD, hw0])
  have HBB := Lib.hid (show bD B 2 t a = B from by simp [bD, hb0])
  clear hw0 hb0
  obtain ⟨a1, c1, rfl⟩ := own_shape R.words
  obtain ⟨a2, c2, rfl⟩ := own_shape R.bytes
  have n1 := fun k hk => (R.words.lt k hk).2
  have n2 := fun k hk => (R.bytes.lt k hk).2
  have N1 := Lib.hid n1
  have N2 := Lib.hid n2
  clear n1 n2
  go_enter Try.func22, Try.ntmps22
  go_upto_region 1 with fail
  generalize hV : World.alloc (World.alloc (World.alloc w _) _) _ = V
  have hB : Below w.heap.size w V := hV ▸ al3_b w _ _ _
  have AM : At V w.heap.size #[.slice a1 W.length c1, .slice a2 B.length c2] 41 := hV ▸ al3_0 w _ _ _
  have AX : At V (w.heap.size + 1) #[.int .u8 2, .int .i64 t, .int .u64 a, .int .u64 b] 30 := hV ▸ al3_1 w _ _ _
  have AR : At V (w.heap.size + 1 + 1) #[.slice none 0 0, .slice none 0 0] 41 := hV ▸ al3_2 w _ _ _
  have R' := R.below hB
  clear hV R
  have m0 := AM.cell 0 rfl
  have m1 := AM.cell 1 rfl
  have x0 := AX.cell 0 rfl
  have x1 := AX.cell 1 rfl
  have x2 := AX.cell 2 rfl
  have x3 := AX.cell 3 rfl
  by_cases ht : t < 0
  · clear h
    go_wp2_with (refine wpList_store_row rfl 41 (.tmp 4) (.tmp 79) rfl (w.heap.size + 1 + 1) #[.slice a1 W.length c1, .slice a2 B.length c2] rfl rfl 41 _ AR (info41 _ _) rfl (one41 _ _ _ _ _ _) ?_)
    refine bodyPost_ret (results_row_tmp2 (p := 4) (u := 5) (u' := 6) (ty := 41) rfl _ _ (w.heap.size + 1 + 1) 41 #[.slice a1 W.length c1, .slice a2 B.length c2] (0, 0) _ _ _ rfl rfl rfl (setRow_heap _ _ _ _ _ _ AR) Try.underlying41 rfl (info41 _ _)) rfl ?_
    exact ⟨_, _, by rw [HT.out, HO.out]; rfl, by rw [HW.out, HBB.out]; exact R'.setRow _ _ (fun k hk => by have := N1.out k hk; omega) (fun k hk => by have := N2.out k hk; omega), below_setRow hB (by omega) _⟩
  · have ht2 : (W.length : Int) ≤ t := by omega
    clear h
    go_wp2_with (refine wpList_store_row rfl 41 (.tmp 4) (.tmp 79) rfl (w.heap.size + 1 + 1) #[.slice a1 W.length c1, .slice a2 B.length c2] rfl rfl 41 _ AR (info41 _ _) rfl (one41 _ _ _ _ _ _) ?_)
    refine bodyPost_ret (results_row_tmp2 (p := 4) (u := 5) (u' := 6) (ty := 41) rfl _ _ (w.heap.size + 1 + 1) 41 #[.slice a1 W.length c1, .slice a2 B.length c2] (0, 0) _ _ _ rfl rfl rfl (setRow_heap _ _ _ _ _ _ AR) Try.underlying41 rfl (info41 _ _)) rfl ?_
    exact ⟨_, _, by rw [HT.out, HO.out]; rfl, by rw [HW.out, HBB.out]; exact R'.setRow _ _ (fun k hk => by have := N1.out k hk; omega) (fun k hk => by have := N2.out k hk; omega), below_setRow hB (by omega) _⟩
set_option maxRecDepth 100000 in
set_option maxHeartbeats 1000000 in
theorem ref_out3 (base : Nat) (v1 v2 : Value) (W B : List Int) (w : World) (R : Ref w base v1 v2 W B) (hb : base ≤ w.heap.size) (l1 : W.length ≤ 2097152) (l2 : B.length ≤ 1048576) (t a b : Int) (h : t < 0 ∨ (W.length : Int) ≤ t) : Calls Try.prog 22 #[.agg #[v1, v2], .agg #[.int .u8 3, .int .i64 t, .int .u64 a, .int .u64 b]] w (RefDo base W B 3 t a b w) := by
  have hw0 : inW W 3 t = false := by simp [inW]; omega
  have hb0 : inB B 3 t = false := by simp [inB]
  have HO := Lib.hid (show okD W B 3 t = false from by simp [okD, hw0, hb0])
  have HT := Lib.hid (show tD W B 3 t a = 0 from by simp [tD, hw0, hb0])
  have HW := Lib.hid (show wD W 3 t a b = W from by simp [wD, hw0])
  have HBB := Lib.hid (show bD B 3 t a = B from by simp [bD, hb0])
  clear hw0 hb0
  obtain ⟨a1, c1, rfl⟩ := own_shape R.words
  obtain ⟨a2, c2, rfl⟩ := own_shape R.bytes
  have n1 := fun k hk => (R.words.lt k hk).2
  have n2 := fun k hk => (R.bytes.lt k hk).2
  have N1 := Lib.hid n1
  have N2 := Lib.hid n2
  clear n1 n2
  go_enter Try.func22, Try.ntmps22
  go_upto_region 1 with fail
  generalize hV : World.alloc (World.alloc (World.alloc w _) _) _ = V
  have hB : Below w.heap.size w V := hV ▸ al3_b w _ _ _
  have AM : At V w.heap.size #[.slice a1 W.length c1, .slice a2 B.length c2] 41 := hV ▸ al3_0 w _ _ _
  have AX : At V (w.heap.size + 1) #[.int .u8 3, .int .i64 t, .int .u64 a, .int .u64 b] 30 := hV ▸ al3_1 w _ _ _
  have AR : At V (w.heap.size + 1 + 1) #[.slice none 0 0, .slice none 0 0] 41 := hV ▸ al3_2 w _ _ _
  have R' := R.below hB
  clear hV R
  have m0 := AM.cell 0 rfl
  have m1 := AM.cell 1 rfl
  have x0 := AX.cell 0 rfl
  have x1 := AX.cell 1 rfl
  have x2 := AX.cell 2 rfl
  have x3 := AX.cell 3 rfl
  by_cases ht : t < 0
  · clear h
    go_wp2_with (refine wpList_store_row rfl 41 (.tmp 4) (.tmp 79) rfl (w.heap.size + 1 + 1) #[.slice a1 W.length c1, .slice a2 B.length c2] rfl rfl 41 _ AR (info41 _ _) rfl (one41 _ _ _ _ _ _) ?_)
    refine bodyPost_ret (results_row_tmp2 (p := 4) (u := 5) (u' := 6) (ty := 41) rfl _ _ (w.heap.size + 1 + 1) 41 #[.slice a1 W.length c1, .slice a2 B.length c2] (0, 0) _ _ _ rfl rfl rfl (setRow_heap _ _ _ _ _ _ AR) Try.underlying41 rfl (info41 _ _)) rfl ?_
    exact ⟨_, _, by rw [HT.out, HO.out]; rfl, by rw [HW.out, HBB.out]; exact R'.setRow _ _ (fun k hk => by have := N1.out k hk; omega) (fun k hk => by have := N2.out k hk; omega), below_setRow hB (by omega) _⟩
  · have ht2 : (W.length : Int) ≤ t := by omega
    clear h
    go_wp2_with (refine wpList_store_row rfl 41 (.tmp 4) (.tmp 79) rfl (w.heap.size + 1 + 1) #[.slice a1 W.length c1, .slice a2 B.length c2] rfl rfl 41 _ AR (info41 _ _) rfl (one41 _ _ _ _ _ _) ?_)
    refine bodyPost_ret (results_row_tmp2 (p := 4) (u := 5) (u' := 6) (ty := 41) rfl _ _ (w.heap.size + 1 + 1) 41 #[.slice a1 W.length c1, .slice a2 B.length c2] (0, 0) _ _ _ rfl rfl rfl (setRow_heap _ _ _ _ _ _ AR) Try.underlying41 rfl (info41 _ _)) rfl ?_
    exact ⟨_, _, by rw [HT.out, HO.out]; rfl, by rw [HW.out, HBB.out]; exact R'.setRow _ _ (fun k hk => by have := N1.out k hk; omega) (fun k hk => by have := N2.out k hk; omega), below_setRow hB (by omega) _⟩
set_option maxRecDepth 100000 in
set_option maxHeartbeats 1000000 in
theorem ref_out4 (base : Nat) (v1 v2 : Value) (W B : List Int) (w : World) (R : Ref w base v1 v2 W B) (hb : base ≤ w.heap.size) (l1 : W.length ≤ 2097152) (l2 : B.length ≤ 1048576) (t a b : Int) (h : t < 0 ∨ (W.length : Int) ≤ t) : Calls Try.prog 22 #[.agg #[v1, v2], .agg #[.int .u8 4, .int .i64 t, .int .u64 a, .int .u64 b]] w (RefDo base W B 4 t a b w) := by
  have hw0 : inW W 4 t = false := by simp [inW]; omega
  have hb0 : inB B 4 t = false := by simp [inB]
  have HO := Lib.hid (show okD W B 4 t = false from by simp [okD, hw0, hb0])
  have HT := Lib.hid (show tD W B 4 t a = 0 from by simp [tD, hw0, hb0])
  have HW := Lib.hid (show wD W 4 t a b = W from by simp [wD, hw0])
  have HBB := Lib.hid (show bD B 4 t a = B from by simp [bD, hb0])
  clear hw0 hb0
  obtain ⟨a1, c1, rfl⟩ := own_shape R.words
  obtain ⟨a2, c2, rfl⟩ := own_shape R.bytes
  have n1 := fun k hk => (R.words.lt k hk).2
  have n2 := fun k hk => (R.bytes.lt k hk).2
  have N1 := Lib.hid n1
  have N2 := Lib.hid n2
  clear n1 n2
  go_enter Try.func22, Try.ntmps22
  go_upto_region 1 with fail
  generalize hV : World.alloc (World.alloc (World.alloc w _) _) _ = V
  have hB : Below w.heap.size w V := hV ▸ al3_b w _ _ _
  have AM : At V w.heap.size #[.slice a1 W.length c1, .slice a2 B.length c2] 41 := hV ▸ al3_0 w _ _ _
  have AX : At V (w.heap.size + 1) #[.int .u8 4, .int .i64 t, .int .u64 a, .int .u64 b] 30 := hV ▸ al3_1 w _ _ _
  have AR : At V (w.heap.size + 1 + 1) #[.slice none 0 0, .slice none 0 0] 41 := hV ▸ al3_2 w _ _ _
  have R' := R.below hB
  clear hV R
  have m0 := AM.cell 0 rfl
  have m1 := AM.cell 1 rfl
  have x0 := AX.cell 0 rfl
  have x1 := AX.cell 1 rfl
  have x2 := AX.cell 2 rfl
  have x3 := AX.cell 3 rfl
  by_cases ht : t < 0
  · clear h
    go_wp2_with (refine wpList_store_row rfl 41 (.tmp 4) (.tmp 79) rfl (w.heap.size + 1 + 1) #[.slice a1 W.length c1, .slice a2 B.length c2] rfl rfl 41 _ AR (info41 _ _) rfl (one41 _ _ _ _ _ _) ?_)
    refine bodyPost_ret (results_row_tmp2 (p := 4) (u := 5) (u' := 6) (ty := 41) rfl _ _ (w.heap.size + 1 + 1) 41 #[.slice a1 W.length c1, .slice a2 B.length c2] (0, 0) _ _ _ rfl rfl rfl (setRow_heap _ _ _ _ _ _ AR) Try.underlying41 rfl (info41 _ _)) rfl ?_
    exact ⟨_, _, by rw [HT.out, HO.out]; rfl, by rw [HW.out, HBB.out]; exact R'.setRow _ _ (fun k hk => by have := N1.out k hk; omega) (fun k hk => by have := N2.out k hk; omega), below_setRow hB (by omega) _⟩
  · have ht2 : (W.length : Int) ≤ t := by omega
    clear h
    go_wp2_with (refine wpList_store_row rfl 41 (.tmp 4) (.tmp 79) rfl (w.heap.size + 1 + 1) #[.slice a1 W.length c1, .slice a2 B.length c2] rfl rfl 41 _ AR (info41 _ _) rfl (one41 _ _ _ _ _ _) ?_)
    refine bodyPost_ret (results_row_tmp2 (p := 4) (u := 5) (u' := 6) (ty := 41) rfl _ _ (w.heap.size + 1 + 1) 41 #[.slice a1 W.length c1, .slice a2 B.length c2] (0, 0) _ _ _ rfl rfl rfl (setRow_heap _ _ _ _ _ _ AR) Try.underlying41 rfl (info41 _ _)) rfl ?_
    exact ⟨_, _, by rw [HT.out, HO.out]; rfl, by rw [HW.out, HBB.out]; exact R'.setRow _ _ (fun k hk => by have := N1.out k hk; omega) (fun k hk => by have := N2.out k hk; omega), below_setRow hB (by omega) _⟩
end Go.Proofs.Ytmdagppeeejikaa
