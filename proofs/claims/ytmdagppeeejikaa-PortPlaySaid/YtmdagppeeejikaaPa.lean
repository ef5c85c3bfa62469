/- The reference's store (quilletref04): New; Do out of range. Condition: the numbers fit their kinds. -/
import Derived.Test.YtmdagppeeejikaaMr
import Derived.Deep.Cut
namespace Go.Proofs.Ytmdagppeeejikaa
open Go.RowKit
set_option linter.unusedVariables false

theorem info62 (a b : Value) : (Try.prog.info? 62).map (·.size) = some (#[a, b] : Array Value).size := by kernel_rfl
def RefNew4 (n k : Nat) (w : World) (e : Ending) (w' : World) : Prop := ∃ v1 v2, e = .returned (.agg #[v1, v2]) ∧ Ref w' w.heap.size v1 v2 (zeros n) (zeros k) ∧ Below w.heap.size w w'
/-- what Do leaves -/
def RefDo4 (base : Nat) (W B : List Int) (k t a b : Int) (w : World) (e : Ending) (w' : World) : Prop :=
  ∃ v1 v2, e = .returned (.tuple #[.agg #[v1, v2], .int .u64 (tD W B k t a)]) ∧ Ref w' base v1 v2 (wD W k t a b) (bD B k t a) ∧ Below w.heap.size w w'
theorem ref4_fin (n k : Nat) (w V : World) (bw bb : Nat) (h1 : n ≤ 2097152) (h2 : k ≤ 1048576) (hw : V.heap[bw]? = some (.cells (u64s (zeros n)) 22 (0, 0))) (hb : V.heap[bb]? = some (.cells (u8s (zeros k)) 5 (0, 0))) (hB : Below w.heap.size w V) (l2 : w.heap.size ≤ bw) (l3 : w.heap.size ≤ bb) :
    RefNew4 n k w (.returned (.agg #[.slice (some ⟨bw, 0, none⟩) n n, .slice (some ⟨bb, 0, none⟩) k k])) V := by
  obtain ⟨v1, v2, he, h, hb⟩ := ref_fin n k w V bw bb h1 h2 hw hb hB l2 l3
  simp only [Ending.returned.injEq, Value.tuple.injEq, Array.mk.injEq, List.cons.injEq, Value.agg.injEq, and_true] at he
  obtain ⟨rfl, rfl⟩ := he
  exact ⟨_, _, rfl, h, hb⟩
set_option maxHeartbeats 1000000 in
theorem ref4_new (n k : Nat) (w : World) (h1 : n ≤ 2097152) (h2 : k ≤ 1048576) :
    Calls Try.prog 37 #[.int .i64 n, .int .i64 k] w (RefNew4 n k w) := by
  have m1 := mk22 n h1
  have m2 := mk5 k h2
  go_enter Try.func37, Try.ntmps37
  go_wp2_with fail
  go_region_with (fail)
  all_goals go_wp2_with fail
  · refine bodyPost_ret (results_cell_row (p := 4) (ty := 62) rfl _ _ w.heap.size 62 #[.slice (some ⟨w.heap.size + 1, 0, none⟩) n n, .slice (some ⟨w.heap.size + 1 + 1, 0, none⟩) k k] (0, 0) _ rfl (al3_0 w _ _ _) Try.underlying62 rfl (info62 _ _)) rfl ?_
    exact ref4_fin n k w _ _ _ h1 h2 (al3_1 w _ _ _) (al3_2 w _ _ _) (al3_b w _ _ _).drew (by omega) (by omega)
  · refine bodyPost_ret (results_cell_row (p := 4) (ty := 62) rfl _ _ w.heap.size 62 #[.slice (some ⟨w.heap.size + 1 + 1, 0, none⟩) n n, .slice (some ⟨w.heap.size + 1, 0, none⟩) k k] (0, 0) _ rfl (al3_0 w _ _ _) Try.underlying62 rfl (info62 _ _)) rfl ?_
    exact ref4_fin n k w _ _ _ h1 h2 (al3_2 w _ _ _) (al3_1 w _ _ _) (al3_b w _ _ _).drew (by omega) (by omega)
set_option maxRecDepth 100000 in
set_option maxHeartbeats 1000000 in
theorem ref4_out5 (base : Nat) (v1 v2 : Value) (W B : List Int) (w : World) (R : Ref w base v1 v2 W B) (hb : base ≤ w.heap.size) (l1 : W.length ≤ 2097152) (l2 : B.length ≤ 1048576) (t a b : Int) (h : t < 0 ∨ (B.length : Int) ≤ t) : Calls Try.prog 38 #[.agg #[v1, v2], .agg #[.int .u8 5, .int .i64 t, .int .u64 a, .int .u64 b]] w (RefDo4 base W B 5 t a b w) := by
  have hw0 : inW W 5 t = false := by simp [inW]
  have hb0 : inB B 5 t = false := by simp [inB]; omega
  have HT := Lib.hid (show tD W B 5 t a = 0 from by simp [tD, hw0, hb0])
  have HW := Lib.hid (show wD W 5 t a b = W from by simp [wD, hw0])
  have HBB := Lib.hid (show bD B 5 t a = B from by simp [bD, hb0])
  clear hw0 hb0
  obtain ⟨a1, c1, rfl⟩ := own_shape R.words
  obtain ⟨a2, c2, rfl⟩ := own_shape R.bytes
  have n1 := fun k hk => (R.words.lt k hk).2
  have n2 := fun k hk => (R.bytes.lt k hk).2
  have N1 := Lib.hid n1
  have N2 := Lib.hid n2
  clear n1 n2
  go_enter Try.func38, Try.ntmps38
  go_upto_region 1 with fail
  generalize hV : World.alloc (World.alloc (World.alloc w _) _) _ = V
  have hB : Below w.heap.size w V := hV ▸ al3_b w _ _ _
  have AM : At V w.heap.size #[.slice a1 W.length c1, .slice a2 B.length c2] 62 := hV ▸ al3_0 w _ _ _
  have AX : At V (w.heap.size + 1) #[.int .u8 5, .int .i64 t, .int .u64 a, .int .u64 b] 30 := hV ▸ al3_1 w _ _ _
  have AR : At V (w.heap.size + 1 + 1) #[.slice none 0 0, .slice none 0 0] 62 := hV ▸ al3_2 w _ _ _
  have R' := R.below hB
  clear hV R
  have m0 := AM.cell 0 rfl
  have m1 := AM.cell 1 rfl
  have x0 := AX.cell 0 rfl
  have x1 := AX.cell 1 rfl
  have x2 := AX.cell 2 rfl
  have x3 := AX.cell 3 rfl
  by_cases ht : t < 0
  · clear h
    go_wp2_with (refine wpList_store_row rfl 62 (.tmp 4) (.tmp 28) rfl (w.heap.size + 1 + 1) #[.slice a1 W.length c1, .slice a2 B.length c2] rfl rfl 62 _ AR (info62 _ _) rfl (one41 _ _ _ _ _ _) ?_)
    refine bodyPost_ret (results_row_tmp (p := 4) (u := 5) (ty := 62) rfl _ _ (w.heap.size + 1 + 1) 62 #[.slice a1 W.length c1, .slice a2 B.length c2] (0, 0) _ _ rfl rfl (setRow_heap _ _ _ _ _ _ AR) Try.underlying62 rfl (info62 _ _)) rfl ?_
    exact ⟨_, _, by rw [HT.out]; rfl, by rw [HW.out, HBB.out]; exact R'.setRow _ _ (fun k hk => by have := N1.out k hk; omega) (fun k hk => by have := N2.out k hk; omega), below_setRow hB (by omega) _⟩
  · have ht2 : (B.length : Int) ≤ t := by omega
    clear h
    go_wp2_with (refine wpList_store_row rfl 62 (.tmp 4) (.tmp 28) rfl (w.heap.size + 1 + 1) #[.slice a1 W.length c1, .slice a2 B.length c2] rfl rfl 62 _ AR (info62 _ _) rfl (one41 _ _ _ _ _ _) ?_)
    refine bodyPost_ret (results_row_tmp (p := 4) (u := 5) (ty := 62) rfl _ _ (w.heap.size + 1 + 1) 62 #[.slice a1 W.length c1, .slice a2 B.length c2] (0, 0) _ _ rfl rfl (setRow_heap _ _ _ _ _ _ AR) Try.underlying62 rfl (info62 _ _)) rfl ?_
    exact ⟨_, _, by rw [HT.out]; rfl, by rw [HW.out, HBB.out]; exact R'.setRow _ _ (fun k hk => by have := N1.out k hk; omega) (fun k hk => by have := N2.out k hk; omega), below_setRow hB (by omega) _⟩
set_option maxRecDepth 100000 in
set_option maxHeartbeats 1000000 in
theorem ref4_out6 (base : Nat) (v1 v2 : Value) (W B : List Int) (w : World) (R : Ref w base v1 v2 W B) (hb : base ≤ w.heap.size) (l1 : W.length ≤ 2097152) (l2 : B.length ≤ 1048576) (t a b : Int) (h : t < 0 ∨ (B.length : Int) ≤ t) : Calls Try.prog 38 #[.agg #[v1, v2], .agg #[.int .u8 6, .int .i64 t, .int .u64 a, .int .u64 b]] w (RefDo4 base W B 6 t a b w) := by
  have hw0 : inW W 6 t = false := by simp [inW]
  have hb0 : inB B 6 t = false := by simp [inB]; omega
  have HT := Lib.hid (show tD W B 6 t a = 0 from by simp [tD, hw0, hb0])
  have HW := Lib.hid (show wD W 6 t a b = W from by simp [wD, hw0])
  have HBB := Lib.hid (show bD B 6 t a = B from by simp [bD, hb0])
  clear hw0 hb0
  obtain ⟨a1, c1, rfl⟩ := own_shape R.words
  obtain ⟨a2, c2, rfl⟩ := own_shape R.bytes
  have n1 := fun k hk => (R.words.lt k hk).2
  have n2 := fun k hk => (R.bytes.lt k hk).2
  have N1 := Lib.hid n1
  have N2 := Lib.hid n2
  clear n1 n2
  go_enter Try.func38, Try.ntmps38
  go_upto_region 1 with fail
  generalize hV : World.alloc (World.alloc (World.alloc w _) _) _ = V
  have hB : Below w.heap.size w V := hV ▸ al3_b w _ _ _
  have AM : At V w.heap.size #[.slice a1 W.length c1, .slice a2 B.length c2] 62 := hV ▸ al3_0 w _ _ _
  have AX : At V (w.heap.size + 1) #[.int .u8 6, .int .i64 t, .int .u64 a, .int .u64 b] 30 := hV ▸ al3_1 w _ _ _
  have AR : At V (w.heap.size + 1 + 1) #[.slice none 0 0, .slice none 0 0] 62 := hV ▸ al3_2 w _ _ _
  have R' := R.below hB
  clear hV R
  have m0 := AM.cell 0 rfl
  have m1 := AM.cell 1 rfl
  have x0 := AX.cell 0 rfl
  have x1 := AX.cell 1 rfl
  have x2 := AX.cell 2 rfl
  have x3 := AX.cell 3 rfl
  by_cases ht : t < 0
  · clear h
    go_wp2_with (refine wpList_store_row rfl 62 (.tmp 4) (.tmp 28) rfl (w.heap.size + 1 + 1) #[.slice a1 W.length c1, .slice a2 B.length c2] rfl rfl 62 _ AR (info62 _ _) rfl (one41 _ _ _ _ _ _) ?_)
    refine bodyPost_ret (results_row_tmp (p := 4) (u := 5) (ty := 62) rfl _ _ (w.heap.size + 1 + 1) 62 #[.slice a1 W.length c1, .slice a2 B.length c2] (0, 0) _ _ rfl rfl (setRow_heap _ _ _ _ _ _ AR) Try.underlying62 rfl (info62 _ _)) rfl ?_
    exact ⟨_, _, by rw [HT.out]; rfl, by rw [HW.out, HBB.out]; exact R'.setRow _ _ (fun k hk => by have := N1.out k hk; omega) (fun k hk => by have := N2.out k hk; omega), below_setRow hB (by omega) _⟩
  · have ht2 : (B.length : Int) ≤ t := by omega
    clear h
    go_wp2_with (refine wpList_store_row rfl 62 (.tmp 4) (.tmp 28) rfl (w.heap.size + 1 + 1) #[.slice a1 W.length c1, .slice a2 B.length c2] rfl rfl 62 _ AR (info62 _ _) rfl (one41 _ _ _ _ _ _) ?_)
    refine bodyPost_ret (results_row_tmp (p := 4) (u := 5) (ty := 62) rfl _ _ (w.heap.size + 1 + 1) 62 #[.slice a1 W.length c1, .slice a2 B.length c2] (0, 0) _ _ rfl rfl (setRow_heap _ _ _ _ _ _ AR) Try.underlying62 rfl (info62 _ _)) rfl ?_
    exact ⟨_, _, by rw [HT.out]; rfl, by rw [HW.out, HBB.out]; exact R'.setRow _ _ (fun k hk => by have := N1.out k hk; omega) (fun k hk => by have := N2.out k hk; omega), below_setRow hB (by omega) _⟩
set_option maxRecDepth 100000 in
set_option maxHeartbeats 1000000 in
theorem ref4_out1 (base : Nat) (v1 v2 : Value) (W B : List Int) (w : World) (R : Ref w base v1 v2 W B) (hb : base ≤ w.heap.size) (l1 : W.length ≤ 2097152) (l2 : B.length ≤ 1048576) (t a b : Int) (h : t < 0 ∨ (W.length : Int) ≤ t) : Calls Try.prog 38 #[.agg #[v1, v2], .agg #[.int .u8 1, .int .i64 t, .int .u64 a, .int .u64 b]] w (RefDo4 base W B 1 t a b w) := by
  have hw0 : inW W 1 t = false := by simp [inW]; omega
  have hb0 : inB B 1 t = false := by simp [inB]
  have HT := Lib.hid (show tD W B 1 t a = 0 from by simp [tD, hw0, hb0])
  have HW := Lib.hid (show wD W 1 t a b = W from by simp [wD, hw0])
  have HBB := Lib.hid (show bD B 1 t a = B from by simp [bD, hb0])
  clear hw0 hb0
  obtain ⟨a1, c1, rfl⟩ := own_shape R.words
  obtain ⟨a2, c2, rfl⟩ := own_shape R.bytes
  have n1 := fun k hk => (R.words.lt k hk).2
  have n2 := fun k hk => (R.bytes.lt k hk).2
  have N1 := Lib.hid n1
  have N2 := Lib.hid n2
  clear n1 n2
  go_enter Try.func38, Try.ntmps38
  go_upto_region 1 with fail
  generalize hV : World.alloc (World.alloc (World.alloc w _) _) _ = V
  have hB : Below w.heap.size w V := hV ▸ al3_b w _ _ _
  have AM : At V w.heap.size #[.slice a1 W.length c1, .slice a2 B.length c2] 62 := hV ▸ al3_0 w _ _ _
  have AX : At V (w.heap.size + 1) #[.int .u8 1, .int .i64 t, .int .u64 a, .int .u64 b] 30 := hV ▸ al3_1 w _ _ _
  have AR : At V (w.heap.size + 1 + 1) #[.slice none 0 0, .slice none 0 0] 62 := hV ▸ al3_2 w _ _ _
  have R' := R.below hB
  clear hV R
  have m0 := AM.cell 0 rfl
  have m1 := AM.cell 1 rfl
  have x0 := AX.cell 0 rfl
  have x1 := AX.cell 1 rfl
  have x2 := AX.cell 2 rfl
  have x3 := AX.cell 3 rfl
  by_cases ht : t < 0
  · clear h
    go_wp2_with (refine wpList_store_row rfl 62 (.tmp 4) (.tmp 75) rfl (w.heap.size + 1 + 1) #[.slice a1 W.length c1, .slice a2 B.length c2] rfl rfl 62 _ AR (info62 _ _) rfl (one41 _ _ _ _ _ _) ?_)
    refine bodyPost_ret (results_row_tmp (p := 4) (u := 5) (ty := 62) rfl _ _ (w.heap.size + 1 + 1) 62 #[.slice a1 W.length c1, .slice a2 B.length c2] (0, 0) _ _ rfl rfl (setRow_heap _ _ _ _ _ _ AR) Try.underlying62 rfl (info62 _ _)) rfl ?_
    exact ⟨_, _, by rw [HT.out]; rfl, by rw [HW.out, HBB.out]; exact R'.setRow _ _ (fun k hk => by have := N1.out k hk; omega) (fun k hk => by have := N2.out k hk; omega), below_setRow hB (by omega) _⟩
  · have ht2 : (W.length : Int) ≤ t := by omega
    clear h
    go_wp2_with (refine wpList_store_row rfl 62 (.tmp 4) (.tmp 75) rfl (w.heap.size + 1 + 1) #[.slice a1 W.length c1, .slice a2 B.length c2] rfl rfl 62 _ AR (info62 _ _) rfl (one41 _ _ _ _ _ _) ?_)
    refine bodyPost_ret (results_row_tmp (p := 4) (u := 5) (ty := 62) rfl _ _ (w.heap.size + 1 + 1) 62 #[.slice a1 W.length c1, .slice a2 B.length c2] (0, 0) _ _ rfl rfl (setRow_heap _ _ _ _ _ _ AR) Try.underlying62 rfl (info62 _ _)) rfl ?_
    exact ⟨_, _, by rw [HT.out]; rfl, by rw [HW.out, HBB.out]; exact R'.setRow _ _ (fun k hk => by have := N1.out k hk; omega) (fun k hk => by have := N2.out k hk; omega), below_setRow hB (by omega) _⟩
set_option maxRecDepth 100000 in
set_option maxHeartbeats 1000000 in
theorem ref4_out2 (base : Nat) (v1 v2 : Value) (W B : List Int) (w : World) (R : Ref w base v1 v2 W B) (hb : base ≤ w.heap.size) (l1 : W.length ≤ 2097152) (l2 : B.length ≤ 1048576) (t a b : Int) (h : t < 0 ∨ (W.length : Int) ≤ t) : Calls Try.prog 38 #[.agg #[v1, v2], .agg #[.int .u8 2, .int .i64 t, .int .u64 a, .int .u64 b]] w (RefDo4 base W B 2 t a b w) := by
  have hw0 : inW W 2 t = false := by simp [inW]; omega
  have hb0 : inB B 2 t = false := by simp [inB]
  have HT := Lib.hid (show tD W B 2 t a = 0 from by simp [tD, hw0, hb0])
  have HW := Lib.hid (show wD W 2 t a b = W from by simp [wD, hw0])
  have HBB := Lib.hid (show bD B 2 t a = B from by simp [bD, hb0])
  clear hw0 hb0
  obtain ⟨a1, c1, rfl⟩ := own_shape R.words
  obtain ⟨a2, c2, rfl⟩ := own_shape R.bytes
  have n1 := fun k hk => (R.words.lt k hk).2
  have n2 := fun k hk => (R.bytes.lt k hk).2
  have N1 := Lib.hid n1
  have N2 := Lib.hid n2
  clear n1 n2
  go_enter Try.func38, Try.ntmps38
  go_upto_region 1 with fail
  generalize hV : World.alloc (World.alloc (World.alloc w _) _) _ = V
  have hB : Below w.heap.size w V := hV ▸ al3_b w _ _ _
  have AM : At V w.heap.size #[.slice a1 W.length c1, .slice a2 B.length c2] 62 := hV ▸ al3_0 w _ _ _
  have AX : At V (w.heap.size + 1) #[.int .u8 2, .int .i64 t, .int .u64 a, .int .u64 b] 30 := hV ▸ al3_1 w _ _ _
  have AR : At V (w.heap.size + 1 + 1) #[.slice none 0 0, .slice none 0 0] 62 := hV ▸ al3_2 w _ _ _
  have R' := R.below hB
  clear hV R
  have m0 := AM.cell 0 rfl
  have m1 := AM.cell 1 rfl
  have x0 := AX.cell 0 rfl
  have x1 := AX.cell 1 rfl
  have x2 := AX.cell 2 rfl
  have x3 := AX.cell 3 rfl
  by_cases ht : t < 0
  · clear h
    go_wp2_with (refine wpList_store_row rfl 62 (.tmp 4) (.tmp 75) rfl (w.heap.size + 1 + 1) #[.slice a1 W.length c1, .slice a2 B.length c2] rfl rfl 62 _ AR (info62 _ _) rfl (one41 _ _ _ _ _ _) ?_)
    refine bodyPost_ret (results_row_tmp (p := 4) (u := 5) (ty := 62) rfl _ _ (w.heap.size + 1 + 1) 62 #[.slice a1 W.length c1, .slice a2 B.length c2] (0, 0) _ _ rfl rfl (setRow_heap _ _ _ _ _ _ AR) Try.underlying62 rfl (info62 _ _)) rfl ?_
    exact ⟨_, _, by rw [HT.out]; rfl, by rw [HW.out, HBB.out]; exact R'.setRow _ _ (fun k hk => by have := N1.out k hk; omega) (fun k hk => by have := N2.out k hk; omega), below_setRow hB (by omega) _⟩
  · have ht2 : (W.length : Int) ≤ t := by omega
    clear h
    go_wp2_with (refine wpList_store_row rfl 62 (.tmp 4) (.tmp 75) rfl (w.heap.size + 1 + 1) #[.slice a1 W.length c1, .slice a2 B.length c2] rfl rfl 62 _ AR (info62 _ _) rfl (one41 _ _ _ _ _ _) ?_)
    refine bodyPost_ret (results_row_tmp (p := 4) (u := 5) (ty := 62) rfl _ _ (w.heap.size + 1 + 1) 62 #[.slice a1 W.length c1, .slice a2 B.length c2] (0, 0) _ _ rfl rfl (setRow_heap _ _ _ _ _ _ AR) Try.underlying62 rfl (info62 _ _)) rfl ?_
    exact ⟨_, _, by rw [HT.out]; rfl, by rw [HW.out, HBB.out]; exact R'.setRow _ _ (fun k hk => by have := N1.out k hk; omega) (fun k hk => by have := N2.out k hk; omega), below_setRow hB (by omega) _⟩
set_option maxRecDepth 100000 in
set_option maxHeartbeats 1000000 in
theorem ref4_out3 (base : Nat) (v1 v2 : Value) (W B : List Int) (w : World) (R : Ref w base v1 v2 W B) (hb : base ≤ w.heap.size) (l1 : W.length ≤ 2097152) (l2 : B.length ≤ 1048576) (t a b : Int) (h : t < 0 ∨ (W.length : Int) ≤ t) : Calls Try.prog 38 #[.agg #[v1, v2], .agg #[.int .u8 3, .int .i64 t, .int .u64 a, .int .u64 b]] w (RefDo4 base W B 3 t a b w) := by
  have hw0 : inW W 3 t = false := by simp [inW]; omega
  have hb0 : inB B 3 t = false := by simp [inB]
  have HT := Lib.hid (show tD W B 3 t a = 0 from by simp [tD, hw0, hb0])
  have HW := Lib.hid (show wD W 3 t a b = W from by simp [wD, hw0])
  have HBB := Lib.hid (show bD B 3 t a = B from by simp [bD, hb0])
  clear hw0 hb0
  obtain ⟨a1, c1, rfl⟩ := own_shape R.words
  obtain ⟨a2, c2, rfl⟩ := own_shape R.bytes
  have n1 := fun k hk => (R.words.lt k hk).2
  have n2 := fun k hk => (R.bytes.lt k hk).2
  have N1 := Lib.hid n1
  have N2 := Lib.hid n2
  clear n1 n2
  go_enter Try.func38, Try.ntmps38
  go_upto_region 1 with fail
  generalize hV : World.alloc (World.alloc (World.alloc w _) _) _ = V
  have hB : Below w.heap.size w V := hV ▸ al3_b w _ _ _
  have AM : At V w.heap.size #[.slice a1 W.length c1, .slice a2 B.length c2] 62 := hV ▸ al3_0 w _ _ _
  have AX : At V (w.heap.size + 1) #[.int .u8 3, .int .i64 t, .int .u64 a, .int .u64 b] 30 := hV ▸ al3_1 w _ _ _
  have AR : At V (w.heap.size + 1 + 1) #[.slice none 0 0, .slice none 0 0] 62 := hV ▸ al3_2 w _ _ _
  have R' := R.below hB
  clear hV R
  have m0 := AM.cell 0 rfl
  have m1 := AM.cell 1 rfl
  have x0 := AX.cell 0 rfl
  have x1 := AX.cell 1 rfl
  have x2 := AX.cell 2 rfl
  have x3 := AX.cell 3 rfl
  by_cases ht : t < 0
  · clear h
    go_wp2_with (refine wpList_store_row rfl 62 (.tmp 4) (.tmp 75) rfl (w.heap.size + 1 + 1) #[.slice a1 W.length c1, .slice a2 B.length c2] rfl rfl 62 _ AR (info62 _ _) rfl (one41 _ _ _ _ _ _) ?_)
    refine bodyPost_ret (results_row_tmp (p := 4) (u := 5) (ty := 62) rfl _ _ (w.heap.size + 1 + 1) 62 #[.slice a1 W.length c1, .slice a2 B.length c2] (0, 0) _ _ rfl rfl (setRow_heap _ _ _ _ _ _ AR) Try.underlying62 rfl (info62 _ _)) rfl ?_
    exact ⟨_, _, by rw [HT.out]; rfl, by rw [HW.out, HBB.out]; exact R'.setRow _ _ (fun k hk => by have := N1.out k hk; omega) (fun k hk => by have := N2.out k hk; omega), below_setRow hB (by omega) _⟩
  · have ht2 : (W.length : Int) ≤ t := by omega
    clear h
    go_wp2_with (refine wpList_store_row rfl 62 (.tmp 4) (.tmp 75) rfl (w.heap.size + 1 + 1) #[.slice a1 W.length c1, .slice a2 B.length c2] rfl rfl 62 _ AR (info62 _ _) rfl (one41 _ _ _ _ _ _) ?_)
    refine bodyPost_ret (results_row_tmp (p := 4) (u := 5) (ty := 62) rfl _ _ (w.heap.size + 1 + 1) 62 #[.slice a1 W.length c1, .slice a2 B.length c2] (0, 0) _ _ rfl rfl (setRow_heap _ _ _ _ _ _ AR) Try.underlying62 rfl (info62 _ _)) rfl ?_
    exact ⟨_, _, by rw [HT.out]; rfl, by rw [HW.out, HBB.out]; exact R'.setRow _ _ (fun k hk => by have := N1.out k hk; omega) (fun k hk => by have := N2.out k hk; omega), below_setRow hB (by omega) _⟩
set_option maxRecDepth 100000 in
set_option maxHeartbeats 1000000 in
theorem ref4_out4 (base : Nat) (v1 v2 : Value) (W B : List Int) (w : World) (R : Ref w base v1 v2 W B) (hb : base ≤ w.heap.size) (l1 : W.length ≤ 2097152) (l2 : B.length ≤ 1048576) (t a b : Int) (h : t < 0 ∨ (W.length : Int) ≤ t) : Calls Try.prog 38 #[.agg #[v1, v2], .agg #[.int .u8 4, .int .i64 t, .int .u64 a, .int .u64 b]] w (RefDo4 base W B 4 t a b w) := by
  have hw0 : inW W 4 t = false := by simp [inW]; omega
  have hb0 : inB B 4 t = false := by simp [inB]
  have HT := Lib.hid (show tD W B 4 t a = 0 from by simp [tD, hw0, hb0])
  have HW := Lib.hid (show wD W 4 t a b = W from by simp [wD, hw0])
  have HBB := Lib.hid (show bD B 4 t a = B from by simp [bD, hb0])
  clear hw0 hb0
  obtain ⟨a1, c1, rfl⟩ := own_shape R.words
  obtain ⟨a2, c2, rfl⟩ := own_shape R.bytes
  have n1 := fun k hk => (R.words.lt k hk).2
  have n2 := fun k hk => (R.bytes.lt k hk).2
  have N1 := Lib.hid n1
  have N2 := Lib.hid n2
  clear n1 n2
  go_enter Try.func38, Try.ntmps38
  go_upto_region 1 with fail
  generalize hV : World.alloc (World.alloc (World.alloc w _) _) _ = V
  have hB : Below w.heap.size w V := hV ▸ al3_b w _ _ _
  have AM : At V w.heap.size #[.slice a1 W.length c1, .slice a2 B.length c2] 62 := hV ▸ al3_0 w _ _ _
  have AX : At V (w.heap.size + 1) #[.int .u8 4, .int .i64 t, .int .u64 a, .int .u64 b] 30 := hV ▸ al3_1 w _ _ _
  have AR : At V (w.heap.size + 1 + 1) #[.slice none 0 0, .slice none 0 0] 62 := hV ▸ al3_2 w _ _ _
  have R' := R.below hB
  clear hV R
  have m0 := AM.cell 0 rfl
  have m1 := AM.cell 1 rfl
  have x0 := AX.cell 0 rfl
  have x1 := AX.cell 1 rfl
  have x2 := AX.cell 2 rfl
  have x3 := AX.cell 3 rfl
  by_cases ht : t < 0
  · clear h
    go_wp2_with (refine wpList_store_row rfl 62 (.tmp 4) (.tmp 75) rfl (w.heap.size + 1 + 1) #[.slice a1 W.length c1, .slice a2 B.length c2] rfl rfl 62 _ AR (info62 _ _) rfl (one41 _ _ _ _ _ _) ?_)
    refine bodyPost_ret (results_row_tmp (p := 4) (u := 5) (ty := 62) rfl _ _ (w.heap.size + 1 + 1) 62 #[.slice a1 W.length c1, .slice a2 B.length c2] (0, 0) _ _ rfl rfl (setRow_heap _ _ _ _ _ _ AR) Try.underlying62 rfl (info62 _ _)) rfl ?_
    exact ⟨_, _, by rw [HT.out]; rfl, by rw [HW.out, HBB.out]; exact R'.setRow _ _ (fun k hk => by have := N1.out k hk; omega) (fun k hk => by have := N2.out k hk; omega), below_setRow hB (by omega) _⟩
  · have ht2 : (W.length : Int) ≤ t := by omega
    clear h
    go_wp2_with (refine wpList_store_row rfl 62 (.tmp 4) (.tmp 75) rfl (w.heap.size + 1 + 1) #[.slice a1 W.length c1, .slice a2 B.length c2] rfl rfl 62 _ AR (info62 _ _) rfl (one41 _ _ _ _ _ _) ?_)
    refine bodyPost_ret (results_row_tmp (p := 4) (u := 5) (ty := 62) rfl _ _ (w.heap.size + 1 + 1) 62 #[.slice a1 W.length c1, .slice a2 B.length c2] (0, 0) _ _ rfl rfl (setRow_heap _ _ _ _ _ _ AR) Try.underlying62 rfl (info62 _ _)) rfl ?_
    exact ⟨_, _, by rw [HT.out]; rfl, by rw [HW.out, HBB.out]; exact R'.setRow _ _ (fun k hk => by have := N1.out k hk; omega) (fun k hk => by have := N2.out k hk; omega), below_setRow hB (by omega) _⟩
end Go.Proofs.Ytmdagppeeejikaa
