/- The reference's store (quilletref04): Do in range. Condition: the numbers fit their kinds. -/
import Derived.Test.YtmdagppeeejikaaPa
import Derived.Test.YtmdagppeeejikaaNh
import Derived.Deep.RegionHeld3
namespace Go.Proofs.Ytmdagppeeejikaa
open Go.RowKit
set_option linter.unusedVariables false

theorem own_cell {w : World} {base e size n : Nat} {v : Value} {xs : List Value} (h : w.ownsRow base e size v n xs) (q : Addr) (a : Value) (hne : ∀ k, v.ownBlock = some k → k ≠ q.block) : (w.setCell q a).ownsRow base e size v n xs := by
  obtain ⟨hl, h⟩ := h
  refine ⟨hl, ?_⟩
  rcases h with h | ⟨g, cap, cur, hv, hg, hh, r⟩
  · exact .inl h
  · exact .inr ⟨g, cap, cur, hv, hg, (heap_setCell_other _ _ _ _ (hne g (by rw [hv]; rfl))).trans hh, r⟩
theorem set_two4 {w : World} {R : Nat} {p q : Value} {t : TypeId} (h : At w R #[p, q] t) (a b : Value) : ((w.setCell ⟨R, 0, none⟩ a).setCell ⟨R, 1, none⟩ b).heap[R]? = some (.cells #[a, b] t (0, 0)) :=
  heap_setCell_same _ R 1 #[a, q] t b (heap_setCell_same w R 0 #[p, q] t a h)
theorem own_two4 {w : World} {base e size n : Nat} {v : Value} {xs : List Value} (h : w.ownsRow base e size v n xs) (R : Nat) (a b : Value) (hne : ∀ k, v.ownBlock = some k → k ≠ R) : ((w.setCell ⟨R, 0, none⟩ a).setCell ⟨R, 1, none⟩ b).drew.ownsRow base e size v n xs := by
  have h2 := own_cell (own_cell h ⟨R, 0, none⟩ a hne) ⟨R, 1, none⟩ b hne
  exact ⟨h2.1, h2.2⟩
set_option maxRecDepth 100000 in
set_option maxHeartbeats 2000000 in
theorem ref4_in1 (base : Nat) (v1 v2 : Value) (W B : List Int) (w : World) (R : Ref w base v1 v2 W B) (hb : base ≤ w.heap.size) (l1 : W.length ≤ 2097152) (l2 : B.length ≤ 1048576) (i : Nat) (a b : Int) (h : i < W.length) (a0 : 0 ≤ a) (a1' : a < 18446744073709551616) : Calls Try.prog 38 #[.agg #[v1, v2], .agg #[.int .u8 1, .int .i64 i, .int .u64 a, .int .u64 b]] w (RefDo4 base W B 1 i a b w) := by
  have hiw := inW_yes W 1 i h (by decide) (by decide)
  have hbb : inB B 1 i = false := by simp [inB]
  obtain ⟨x, hx⟩ : ∃ x, x = W.getD i 0 := ⟨_, rfl⟩

  have HT := Lib.hid (show tD W B 1 i a = x from by rw [tD_yes _ _ _ _ _ h (by decide) (by decide), ← hx]; simp [toldW])
  have HW := Lib.hid (show wD W 1 i a b = W.set i x from by rw [wD_yes _ _ _ _ _ h (by decide) (by decide), ← hx]; simp [nowW])
  have HBB := Lib.hid (show bD B 1 i a = B from by simp [bD])
  have hwx : (W.map (Value.int .u64))[i]? = some (.int .u64 x) := by rw [hx]; simp [List.getD, h]
  have HWX := Lib.hid hwx
  have hset0 : (W.map (Value.int .u64)).set i (.int .u64 x) = W.map (Value.int .u64) := by
    rw [← List.map_set, hx, set_getD]
  have HS0 := Lib.hid hset0
  have HX := Lib.hid hx


  clear hiw hbb hx hset0
  have i0 : (0 : Int) ≤ (i : Int) := by omega
  have i1 : (i : Int) < (W.length : Int) := by omega
  obtain ⟨g1, c1, rfl, hg1, hg1'⟩ := own_open R.words (by omega)
  obtain ⟨a2, c2, rfl⟩ := own_shape R.bytes
  have N2 := Lib.hid (fun k hk => (R.bytes.lt k hk).2)
  obtain ⟨j0, ji, jz0, jz1, jz2⟩ := info_parts Try.info22
  have HL := Lib.hid h
  clear h
  go_enter Try.func38, Try.ntmps38
  go_upto_region 1 with fail
  generalize hV : World.alloc (World.alloc (World.alloc w _) _) _ = V
  have hB : Below w.heap.size w V := hV ▸ al3_b w _ _ _
  have AM : At V w.heap.size #[.slice (some ⟨g1, 0, none⟩) W.length c1, .slice a2 B.length c2] 62 := hV ▸ al3_0 w _ _ _
  have AX : At V (w.heap.size + 1) #[.int .u8 1, .int .i64 i, .int .u64 a, .int .u64 b] 30 := hV ▸ al3_1 w _ _ _
  have AR : At V (w.heap.size + 1 + 1) #[.slice none 0 0, .slice none 0 0] 62 := hV ▸ al3_2 w _ _ _
  have hVs : w.heap.size + 1 + 1 + 1 = V.heap.size := by rw [← hV]; simp
  have R' := R.below hB
  clear hV R
  have m0 := AM.cell 0 rfl
  have m1 := AM.cell 1 rfl
  have x0 := AX.cell 0 rfl
  have x1 := AX.cell 1 rfl
  have x2 := AX.cell 2 rfl
  have x3 := AX.cell 3 rfl
  go_upto_region 12 with fail
  clear m0 m1 x0 x1 x2 x3
  have O0 : (V.alloc (.cells #[] 22)).ownsRow V.heap.size 22 1 (.slice (some ⟨V.heap.size, 0, none⟩) 0 0) 0 [] := World.ownsRow_made V #[] 0 (Nat.le_refl _) (Nat.zero_le _) rfl
  have F0 : Frm (V.alloc (.cells #[] 22)) (.slice (some ⟨g1, 0, none⟩) W.length c1) W.length 1 (W.map (Value.int .u64)) := frm_own (R'.words.alloc _) (one_map _ _)
  have m0 := (AM.alloc (.cells #[] 22)).cell 0 rfl
  have m1 := (AM.alloc (.cells #[] 22)).cell 1 rfl
  have s0 : V.heap.size ≤ (V.alloc (.cells #[] 22)).heap.size := by simp
  have hrow : ∀ j, (Value.slice (some ⟨V.heap.size, 0, none⟩) 0 0).ownBlock = some j → V.heap.size ≤ j := by intro j hj; simp [Value.ownBlock] at hj; omega
  have s1 : 0 + W.length ≤ maxLen := by unfold maxLen; omega
  have s2 : (0 + W.length) * 8 ≤ 140737488355328 := by omega
  go_upto_region 13 with (at_builtin; refine wpList_append_frm rfl (.tmp 76) (.tmp 78) 34 rfl V.heap.size 22 j0 (.int .u64 0) 1 8 Try.underlying34 ji jz0 jz1 jz2 rfl (by decide) _ _ _ rfl O0 _ _ _ rfl F0 s1 s2 s0 ?_; intro v' V1 O1 G1)
  have b1 : Below V.heap.size V V1 := ((Below.refl _ V).alloc (Nat.le_refl _) _).grown G1 s0 hrow
  simp only [Nat.zero_add, List.nil_append] at O1
  obtain ⟨g', c', rfl, hg2, hg3⟩ := own_open O1 (by have := HL.out; omega)
  have AM1 := AM.below b1
  have AX1 := AX.below b1
  have AR1 := AR.below b1
  have B1 : Below w.heap.size w V1 := hB.trans (b1.mono hB.size)
  have R1 := R'.below b1
  clear O0 F0 m0 m1 s0 s1 s2 G1 hrow AM AX AR R' hwx
  have m0 := AM1.cell 0 rfl
  have m1 := AM1.cell 1 rfl
  have x0 := AX1.cell 0 rfl
  have x1 := AX1.cell 1 rfl
  have x2 := AX1.cell 2 rfl
  have x3 := AX1.cell 3 rfl
  have cA := O1.cellAt i (by have := HL.out; omega)
  have cB := cA.trans HWX.out
  clear cA
  have fA := O1.frozenAt i

  go_wp2_with (refine wpList_store_row rfl 62 (.tmp 4) (.tmp 89) rfl (w.heap.size + 1 + 1) #[.slice (some ⟨g1, 0, none⟩) W.length c1, .slice a2 B.length c2] rfl rfl 62 _ AR1 (info62 _ _) rfl (one41 _ _ _ _ _ _) ?_)
  refine bodyPost_ret (results_row_tmp (p := 4) (u := 5) (ty := 62) rfl _ _ (w.heap.size + 1 + 1) 62 #[.slice (some ⟨g1, 0, none⟩) W.length c1, .slice a2 B.length c2] (0, 0) _ _ rfl rfl (setRow_heap _ _ _ _ _ _ AR1) Try.underlying62 rfl (info62 _ _)) rfl ?_
  refine ⟨_, _, by rw [HT.out]; rfl, ?_, below_setRow B1 (by omega) _⟩
  rw [HW.out, HBB.out, HX.out, set_getD]
  exact R1.setRow _ _ (fun k hk => by simp [Value.ownBlock] at hk; omega) (fun k hk => by have := N2.out k hk; omega)
set_option maxRecDepth 100000 in
set_option maxHeartbeats 2000000 in
theorem ref4_in2 (base : Nat) (v1 v2 : Value) (W B : List Int) (w : World) (R : Ref w base v1 v2 W B) (hb : base ≤ w.heap.size) (l1 : W.length ≤ 2097152) (l2 : B.length ≤ 1048576) (i : Nat) (a b : Int) (h : i < W.length) (a0 : 0 ≤ a) (a1' : a < 18446744073709551616) : Calls Try.prog 38 #[.agg #[v1, v2], .agg #[.int .u8 2, .int .i64 i, .int .u64 a, .int .u64 b]] w (RefDo4 base W B 2 i a b w) := by
  have hiw := inW_yes W 2 i h (by decide) (by decide)
  have hbb : inB B 2 i = false := by simp [inB]
  obtain ⟨x, hx⟩ : ∃ x, x = W.getD i 0 := ⟨_, rfl⟩

  have HT := Lib.hid (show tD W B 2 i a = 0 from by rw [tD_yes _ _ _ _ _ h (by decide) (by decide), ← hx]; simp [toldW])
  have HW := Lib.hid (show wD W 2 i a b = W.set i a from by rw [wD_yes _ _ _ _ _ h (by decide) (by decide), ← hx]; simp [nowW])
  have HBB := Lib.hid (show bD B 2 i a = B from by simp [bD])
  have hwx : (W.map (Value.int .u64))[i]? = some (.int .u64 x) := by rw [hx]; simp [List.getD, h]
  have HWX := Lib.hid hwx
  have hset0 : (W.map (Value.int .u64)).set i (.int .u64 x) = W.map (Value.int .u64) := by
    rw [← List.map_set, hx, set_getD]
  have HS0 := Lib.hid hset0
  have HX := Lib.hid hx


  clear hiw hbb hx hset0
  have i0 : (0 : Int) ≤ (i : Int) := by omega
  have i1 : (i : Int) < (W.length : Int) := by omega
  obtain ⟨g1, c1, rfl, hg1, hg1'⟩ := own_open R.words (by omega)
  obtain ⟨a2, c2, rfl⟩ := own_shape R.bytes
  have N2 := Lib.hid (fun k hk => (R.bytes.lt k hk).2)
  obtain ⟨j0, ji, jz0, jz1, jz2⟩ := info_parts Try.info22
  have HL := Lib.hid h
  clear h
  go_enter Try.func38, Try.ntmps38
  go_upto_region 1 with fail
  generalize hV : World.alloc (World.alloc (World.alloc w _) _) _ = V
  have hB : Below w.heap.size w V := hV ▸ al3_b w _ _ _
  have AM : At V w.heap.size #[.slice (some ⟨g1, 0, none⟩) W.length c1, .slice a2 B.length c2] 62 := hV ▸ al3_0 w _ _ _
  have AX : At V (w.heap.size + 1) #[.int .u8 2, .int .i64 i, .int .u64 a, .int .u64 b] 30 := hV ▸ al3_1 w _ _ _
  have AR : At V (w.heap.size + 1 + 1) #[.slice none 0 0, .slice none 0 0] 62 := hV ▸ al3_2 w _ _ _
  have hVs : w.heap.size + 1 + 1 + 1 = V.heap.size := by rw [← hV]; simp
  have R' := R.below hB
  clear hV R
  have m0 := AM.cell 0 rfl
  have m1 := AM.cell 1 rfl
  have x0 := AX.cell 0 rfl
  have x1 := AX.cell 1 rfl
  have x2 := AX.cell 2 rfl
  have x3 := AX.cell 3 rfl
  go_upto_region 12 with fail
  clear m0 m1 x0 x1 x2 x3
  have O0 : (V.alloc (.cells #[] 22)).ownsRow V.heap.size 22 1 (.slice (some ⟨V.heap.size, 0, none⟩) 0 0) 0 [] := World.ownsRow_made V #[] 0 (Nat.le_refl _) (Nat.zero_le _) rfl
  have F0 : Frm (V.alloc (.cells #[] 22)) (.slice (some ⟨g1, 0, none⟩) W.length c1) W.length 1 (W.map (Value.int .u64)) := frm_own (R'.words.alloc _) (one_map _ _)
  have m0 := (AM.alloc (.cells #[] 22)).cell 0 rfl
  have m1 := (AM.alloc (.cells #[] 22)).cell 1 rfl
  have s0 : V.heap.size ≤ (V.alloc (.cells #[] 22)).heap.size := by simp
  have hrow : ∀ j, (Value.slice (some ⟨V.heap.size, 0, none⟩) 0 0).ownBlock = some j → V.heap.size ≤ j := by intro j hj; simp [Value.ownBlock] at hj; omega
  have s1 : 0 + W.length ≤ maxLen := by unfold maxLen; omega
  have s2 : (0 + W.length) * 8 ≤ 140737488355328 := by omega
  go_upto_region 13 with (at_builtin; refine wpList_append_frm rfl (.tmp 76) (.tmp 78) 34 rfl V.heap.size 22 j0 (.int .u64 0) 1 8 Try.underlying34 ji jz0 jz1 jz2 rfl (by decide) _ _ _ rfl O0 _ _ _ rfl F0 s1 s2 s0 ?_; intro v' V1 O1 G1)
  have b1 : Below V.heap.size V V1 := ((Below.refl _ V).alloc (Nat.le_refl _) _).grown G1 s0 hrow
  simp only [Nat.zero_add, List.nil_append] at O1
  obtain ⟨g', c', rfl, hg2, hg3⟩ := own_open O1 (by have := HL.out; omega)
  have AM1 := AM.below b1
  have AX1 := AX.below b1
  have AR1 := AR.below b1
  have B1 : Below w.heap.size w V1 := hB.trans (b1.mono hB.size)
  have R1 := R'.below b1
  clear O0 F0 m0 m1 s0 s1 s2 G1 hrow AM AX AR R' hwx
  have m0 := AM1.cell 0 rfl
  have m1 := AM1.cell 1 rfl
  have x0 := AX1.cell 0 rfl
  have x1 := AX1.cell 1 rfl
  have x2 := AX1.cell 2 rfl
  have x3 := AX1.cell 3 rfl
  have cA := O1.cellAt i (by have := HL.out; omega)
  have cB := cA.trans HWX.out
  clear cA
  have fA := O1.frozenAt i

  go_upto_region 27 with fail
  clear cB fA
  clear m0 m1 x0 x1 x2 x3
  have O2 := (O1.stored i (.int .u64 a)).1
  have AM2 := at_set AM1 ⟨g', i, none⟩ (.int .u64 a) (by simp; omega)
  have AR2 := at_set AR1 ⟨g', i, none⟩ (.int .u64 a) (by simp; omega)
  have B2 : Below w.heap.size w (V1.setCell ⟨g', i, none⟩ (.int .u64 a)) := B1.setCell (by simp; omega) (.int .u64 a)
  have RB2 : (V1.setCell ⟨g', i, none⟩ (.int .u64 a)).ownsRow base 5 1 (.slice a2 B.length c2) B.length (B.map (Value.int .u8)) := own_cell R1.bytes _ _ (fun k hk => by have := N2.out k hk; show k ≠ g'; omega)
  generalize World.setCell V1 ⟨g', i, none⟩ (.int .u64 a) = V2 at *
  clear O1 AM1 AR1 B1 R1 AX1
  rw [← List.map_set] at O2
  have m0 := AM2.cell 0 rfl
  have f0 := frozen_of_row _ _ 0 _ _ AM2
  go_upto_region 28 with fail
  have AM3 : At (V2.setCell ⟨w.heap.size, 0, none⟩ (.slice (some ⟨g', 0, none⟩) W.length c')) w.heap.size #[.slice (some ⟨g', 0, none⟩) W.length c', .slice a2 B.length c2] 62 := heap_setCell_same _ _ 0 _ 62 _ AM2
  have AR3 := at_set AR2 ⟨w.heap.size, 0, none⟩ (.slice (some ⟨g', 0, none⟩) W.length c') (by simp; omega)
  have B3 : Below w.heap.size w (V2.setCell ⟨w.heap.size, 0, none⟩ (.slice (some ⟨g', 0, none⟩) W.length c')) := B2.setCell (Nat.le_refl _) _
  have RB3 := own_cell RB2 ⟨w.heap.size, 0, none⟩ (.slice (some ⟨g', 0, none⟩) W.length c') (fun k hk => by have := N2.out k hk; show k ≠ w.heap.size; omega)
  have O3 := own_cell O2 ⟨w.heap.size, 0, none⟩ (.slice (some ⟨g', 0, none⟩) W.length c') (fun k hk => by simp [Value.ownBlock] at hk; show k ≠ w.heap.size; omega)
  generalize World.setCell V2 ⟨w.heap.size, 0, none⟩ (.slice (some ⟨g', 0, none⟩) W.length c') = V3 at *
  clear m0 f0 AM2 AR2 B2 RB2 O2
  have m0 := AM3.cell 0 rfl
  have m1 := AM3.cell 1 rfl
  go_wp2_with (refine wpList_store_row rfl 62 (.tmp 4) (.tmp 124) rfl (w.heap.size + 1 + 1) #[.slice (some ⟨g', 0, none⟩) W.length c', .slice a2 B.length c2] rfl rfl 62 _ AR3 (info62 _ _) rfl (one41 _ _ _ _ _ _) ?_)
  refine bodyPost_ret (results_row_tmp (p := 4) (u := 5) (ty := 62) rfl _ _ (w.heap.size + 1 + 1) 62 #[.slice (some ⟨g', 0, none⟩) W.length c', .slice a2 B.length c2] (0, 0) _ _ rfl rfl (setRow_heap _ _ _ _ _ _ AR3) Try.underlying62 rfl (info62 _ _)) rfl ?_
  refine ⟨_, _, by rw [HT.out]; rfl, ?_, below_setRow B3 (by omega) _⟩
  rw [HW.out, HBB.out]
  refine ⟨?_, own_setRow RB3 _ _ (fun k hk => by have := N2.out k hk; omega)⟩
  rw [List.length_set]
  exact own_base (own_setRow O3 _ _ (fun k hk => by simp [Value.ownBlock] at hk; omega)) (by omega)
set_option maxRecDepth 100000 in
set_option maxHeartbeats 2000000 in
theorem ref4_in3y (base : Nat) (v1 v2 : Value) (W B : List Int) (w : World) (R : Ref w base v1 v2 W B) (hb : base ≤ w.heap.size) (l1 : W.length ≤ 2097152) (l2 : B.length ≤ 1048576) (i : Nat) (a b : Int) (h : i < W.length) (a0 : 0 ≤ a) (a1' : a < 18446744073709551616) (hxa : W.getD i 0 = a) : Calls Try.prog 38 #[.agg #[v1, v2], .agg #[.int .u8 3, .int .i64 i, .int .u64 a, .int .u64 b]] w (RefDo4 base W B 3 i a b w) := by
  have hiw := inW_yes W 3 i h (by decide) (by decide)
  have hbb : inB B 3 i = false := by simp [inB]
  obtain ⟨x, hx⟩ : ∃ x, x = W.getD i 0 := ⟨_, rfl⟩
  have hxa2 : x = a := hx.trans hxa
  have HT := Lib.hid (show tD W B 3 i a = 1 from by rw [tD_yes _ _ _ _ _ h (by decide) (by decide), ← hx]; simp [toldW, hxa2])
  have HW := Lib.hid (show wD W 3 i a b = W.set i b from by rw [wD_yes _ _ _ _ _ h (by decide) (by decide), ← hx]; simp [nowW, hxa2])
  have HBB := Lib.hid (show bD B 3 i a = B from by simp [bD])
  have hwx : (W.map (Value.int .u64))[i]? = some (.int .u64 x) := by rw [hx]; simp [List.getD, h]
  have HWX := Lib.hid hwx
  have hset0 : (W.map (Value.int .u64)).set i (.int .u64 x) = W.map (Value.int .u64) := by
    rw [← List.map_set, hx, set_getD]
  have HS0 := Lib.hid hset0
  have HX := Lib.hid hx
  have hab1 : (x == a) = true := by rw [hx]; simpa using hxa
  clear hxa hxa2
  clear hiw hbb hx hset0
  have i0 : (0 : Int) ≤ (i : Int) := by omega
  have i1 : (i : Int) < (W.length : Int) := by omega
  obtain ⟨g1, c1, rfl, hg1, hg1'⟩ := own_open R.words (by omega)
  obtain ⟨a2, c2, rfl⟩ := own_shape R.bytes
  have N2 := Lib.hid (fun k hk => (R.bytes.lt k hk).2)
  obtain ⟨j0, ji, jz0, jz1, jz2⟩ := info_parts Try.info22
  have HL := Lib.hid h
  clear h
  go_enter Try.func38, Try.ntmps38
  go_upto_region 1 with fail
  generalize hV : World.alloc (World.alloc (World.alloc w _) _) _ = V
  have hB : Below w.heap.size w V := hV ▸ al3_b w _ _ _
  have AM : At V w.heap.size #[.slice (some ⟨g1, 0, none⟩) W.length c1, .slice a2 B.length c2] 62 := hV ▸ al3_0 w _ _ _
  have AX : At V (w.heap.size + 1) #[.int .u8 3, .int .i64 i, .int .u64 a, .int .u64 b] 30 := hV ▸ al3_1 w _ _ _
  have AR : At V (w.heap.size + 1 + 1) #[.slice none 0 0, .slice none 0 0] 62 := hV ▸ al3_2 w _ _ _
  have hVs : w.heap.size + 1 + 1 + 1 = V.heap.size := by rw [← hV]; simp
  have R' := R.below hB
  clear hV R
  have m0 := AM.cell 0 rfl
  have m1 := AM.cell 1 rfl
  have x0 := AX.cell 0 rfl
  have x1 := AX.cell 1 rfl
  have x2 := AX.cell 2 rfl
  have x3 := AX.cell 3 rfl
  go_upto_region 12 with fail
  clear m0 m1 x0 x1 x2 x3
  have O0 : (V.alloc (.cells #[] 22)).ownsRow V.heap.size 22 1 (.slice (some ⟨V.heap.size, 0, none⟩) 0 0) 0 [] := World.ownsRow_made V #[] 0 (Nat.le_refl _) (Nat.zero_le _) rfl
  have F0 : Frm (V.alloc (.cells #[] 22)) (.slice (some ⟨g1, 0, none⟩) W.length c1) W.length 1 (W.map (Value.int .u64)) := frm_own (R'.words.alloc _) (one_map _ _)
  have m0 := (AM.alloc (.cells #[] 22)).cell 0 rfl
  have m1 := (AM.alloc (.cells #[] 22)).cell 1 rfl
  have s0 : V.heap.size ≤ (V.alloc (.cells #[] 22)).heap.size := by simp
  have hrow : ∀ j, (Value.slice (some ⟨V.heap.size, 0, none⟩) 0 0).ownBlock = some j → V.heap.size ≤ j := by intro j hj; simp [Value.ownBlock] at hj; omega
  have s1 : 0 + W.length ≤ maxLen := by unfold maxLen; omega
  have s2 : (0 + W.length) * 8 ≤ 140737488355328 := by omega
  go_upto_region 13 with (at_builtin; refine wpList_append_frm rfl (.tmp 76) (.tmp 78) 34 rfl V.heap.size 22 j0 (.int .u64 0) 1 8 Try.underlying34 ji jz0 jz1 jz2 rfl (by decide) _ _ _ rfl O0 _ _ _ rfl F0 s1 s2 s0 ?_; intro v' V1 O1 G1)
  have b1 : Below V.heap.size V V1 := ((Below.refl _ V).alloc (Nat.le_refl _) _).grown G1 s0 hrow
  simp only [Nat.zero_add, List.nil_append] at O1
  obtain ⟨g', c', rfl, hg2, hg3⟩ := own_open O1 (by have := HL.out; omega)
  have AM1 := AM.below b1
  have AX1 := AX.below b1
  have AR1 := AR.below b1
  have B1 : Below w.heap.size w V1 := hB.trans (b1.mono hB.size)
  have R1 := R'.below b1
  clear O0 F0 m0 m1 s0 s1 s2 G1 hrow AM AX AR R' hwx
  have m0 := AM1.cell 0 rfl
  have m1 := AM1.cell 1 rfl
  have x0 := AX1.cell 0 rfl
  have x1 := AX1.cell 1 rfl
  have x2 := AX1.cell 2 rfl
  have x3 := AX1.cell 3 rfl
  have cA := O1.cellAt i (by have := HL.out; omega)
  have cB := cA.trans HWX.out
  clear cA
  have fA := O1.frozenAt i

  go_upto_region 27 with fail
  clear cB fA
  clear m0 m1 x0 x1 x2 x3
  have O2 := (O1.stored i (.int .u64 b)).1
  have AM2 := at_set AM1 ⟨g', i, none⟩ (.int .u64 b) (by simp; omega)
  have AR2 := at_set AR1 ⟨g', i, none⟩ (.int .u64 b) (by simp; omega)
  have B2 : Below w.heap.size w (V1.setCell ⟨g', i, none⟩ (.int .u64 b)) := B1.setCell (by simp; omega) (.int .u64 b)
  have RB2 : (V1.setCell ⟨g', i, none⟩ (.int .u64 b)).ownsRow base 5 1 (.slice a2 B.length c2) B.length (B.map (Value.int .u8)) := own_cell R1.bytes _ _ (fun k hk => by have := N2.out k hk; show k ≠ g'; omega)
  generalize World.setCell V1 ⟨g', i, none⟩ (.int .u64 b) = V2 at *
  clear O1 AM1 AR1 B1 R1 AX1
  rw [← List.map_set] at O2
  have m0 := AM2.cell 0 rfl
  have f0 := frozen_of_row _ _ 0 _ _ AM2
  go_upto_region 28 with fail
  have AM3 : At (V2.setCell ⟨w.heap.size, 0, none⟩ (.slice (some ⟨g', 0, none⟩) W.length c')) w.heap.size #[.slice (some ⟨g', 0, none⟩) W.length c', .slice a2 B.length c2] 62 := heap_setCell_same _ _ 0 _ 62 _ AM2
  have AR3 := at_set AR2 ⟨w.heap.size, 0, none⟩ (.slice (some ⟨g', 0, none⟩) W.length c') (by simp; omega)
  have B3 : Below w.heap.size w (V2.setCell ⟨w.heap.size, 0, none⟩ (.slice (some ⟨g', 0, none⟩) W.length c')) := B2.setCell (Nat.le_refl _) _
  have RB3 := own_cell RB2 ⟨w.heap.size, 0, none⟩ (.slice (some ⟨g', 0, none⟩) W.length c') (fun k hk => by have := N2.out k hk; show k ≠ w.heap.size; omega)
  have O3 := own_cell O2 ⟨w.heap.size, 0, none⟩ (.slice (some ⟨g', 0, none⟩) W.length c') (fun k hk => by simp [Value.ownBlock] at hk; show k ≠ w.heap.size; omega)
  generalize World.setCell V2 ⟨w.heap.size, 0, none⟩ (.slice (some ⟨g', 0, none⟩) W.length c') = V3 at *
  clear m0 f0 AM2 AR2 B2 RB2 O2
  have m0 := AM3.cell 0 rfl
  have m1 := AM3.cell 1 rfl
  go_wp2_with (refine wpList_store_row rfl 62 (.tmp 4) (.tmp 124) rfl (w.heap.size + 1 + 1) #[.slice (some ⟨g', 0, none⟩) W.length c', .slice a2 B.length c2] rfl rfl 62 _ AR3 (info62 _ _) rfl (one41 _ _ _ _ _ _) ?_)
  refine bodyPost_ret (results_row_tmp (p := 4) (u := 5) (ty := 62) rfl _ _ (w.heap.size + 1 + 1) 62 #[.slice (some ⟨g', 0, none⟩) W.length c', .slice a2 B.length c2] (0, 0) _ _ rfl rfl (setRow_heap _ _ _ _ _ _ AR3) Try.underlying62 rfl (info62 _ _)) rfl ?_
  refine ⟨_, _, by rw [HT.out]; rfl, ?_, below_setRow B3 (by omega) _⟩
  rw [HW.out, HBB.out]
  refine ⟨?_, own_setRow RB3 _ _ (fun k hk => by have := N2.out k hk; omega)⟩
  rw [List.length_set]
  exact own_base (own_setRow O3 _ _ (fun k hk => by simp [Value.ownBlock] at hk; omega)) (by omega)
set_option maxRecDepth 100000 in
set_option maxHeartbeats 2000000 in
theorem ref4_in3n (base : Nat) (v1 v2 : Value) (W B : List Int) (w : World) (R : Ref w base v1 v2 W B) (hb : base ≤ w.heap.size) (l1 : W.length ≤ 2097152) (l2 : B.length ≤ 1048576) (i : Nat) (a b : Int) (h : i < W.length) (a0 : 0 ≤ a) (a1' : a < 18446744073709551616) (hxa : W.getD i 0 ≠ a) : Calls Try.prog 38 #[.agg #[v1, v2], .agg #[.int .u8 3, .int .i64 i, .int .u64 a, .int .u64 b]] w (RefDo4 base W B 3 i a b w) := by
  have hiw := inW_yes W 3 i h (by decide) (by decide)
  have hbb : inB B 3 i = false := by simp [inB]
  obtain ⟨x, hx⟩ : ∃ x, x = W.getD i 0 := ⟨_, rfl⟩
  have hxa2 : ¬ x = a := by rw [hx]; exact hxa
  have HT := Lib.hid (show tD W B 3 i a = 0 from by rw [tD_yes _ _ _ _ _ h (by decide) (by decide), ← hx]; simp [toldW, hxa2])
  have HW := Lib.hid (show wD W 3 i a b = W.set i x from by rw [wD_yes _ _ _ _ _ h (by decide) (by decide), ← hx]; simp [nowW, hxa2])
  have HBB := Lib.hid (show bD B 3 i a = B from by simp [bD])
  have hwx : (W.map (Value.int .u64))[i]? = some (.int .u64 x) := by rw [hx]; simp [List.getD, h]
  have HWX := Lib.hid hwx
  have hset0 : (W.map (Value.int .u64)).set i (.int .u64 x) = W.map (Value.int .u64) := by
    rw [← List.map_set, hx, set_getD]
  have HS0 := Lib.hid hset0
  have HX := Lib.hid hx
  have hab1 : (x == a) = false := by rw [hx]; simpa using hxa
  clear hxa hxa2
  clear hiw hbb hx hset0
  have i0 : (0 : Int) ≤ (i : Int) := by omega
  have i1 : (i : Int) < (W.length : Int) := by omega
  obtain ⟨g1, c1, rfl, hg1, hg1'⟩ := own_open R.words (by omega)
  obtain ⟨a2, c2, rfl⟩ := own_shape R.bytes
  have N2 := Lib.hid (fun k hk => (R.bytes.lt k hk).2)
  obtain ⟨j0, ji, jz0, jz1, jz2⟩ := info_parts Try.info22
  have HL := Lib.hid h
  clear h
  go_enter Try.func38, Try.ntmps38
  go_upto_region 1 with fail
  generalize hV : World.alloc (World.alloc (World.alloc w _) _) _ = V
  have hB : Below w.heap.size w V := hV ▸ al3_b w _ _ _
  have AM : At V w.heap.size #[.slice (some ⟨g1, 0, none⟩) W.length c1, .slice a2 B.length c2] 62 := hV ▸ al3_0 w _ _ _
  have AX : At V (w.heap.size + 1) #[.int .u8 3, .int .i64 i, .int .u64 a, .int .u64 b] 30 := hV ▸ al3_1 w _ _ _
  have AR : At V (w.heap.size + 1 + 1) #[.slice none 0 0, .slice none 0 0] 62 := hV ▸ al3_2 w _ _ _
  have hVs : w.heap.size + 1 + 1 + 1 = V.heap.size := by rw [← hV]; simp
  have R' := R.below hB
  clear hV R
  have m0 := AM.cell 0 rfl
  have m1 := AM.cell 1 rfl
  have x0 := AX.cell 0 rfl
  have x1 := AX.cell 1 rfl
  have x2 := AX.cell 2 rfl
  have x3 := AX.cell 3 rfl
  go_upto_region 12 with fail
  clear m0 m1 x0 x1 x2 x3
  have O0 : (V.alloc (.cells #[] 22)).ownsRow V.heap.size 22 1 (.slice (some ⟨V.heap.size, 0, none⟩) 0 0) 0 [] := World.ownsRow_made V #[] 0 (Nat.le_refl _) (Nat.zero_le _) rfl
  have F0 : Frm (V.alloc (.cells #[] 22)) (.slice (some ⟨g1, 0, none⟩) W.length c1) W.length 1 (W.map (Value.int .u64)) := frm_own (R'.words.alloc _) (one_map _ _)
  have m0 := (AM.alloc (.cells #[] 22)).cell 0 rfl
  have m1 := (AM.alloc (.cells #[] 22)).cell 1 rfl
  have s0 : V.heap.size ≤ (V.alloc (.cells #[] 22)).heap.size := by simp
  have hrow : ∀ j, (Value.slice (some ⟨V.heap.size, 0, none⟩) 0 0).ownBlock = some j → V.heap.size ≤ j := by intro j hj; simp [Value.ownBlock] at hj; omega
  have s1 : 0 + W.length ≤ maxLen := by unfold maxLen; omega
  have s2 : (0 + W.length) * 8 ≤ 140737488355328 := by omega
  go_upto_region 13 with (at_builtin; refine wpList_append_frm rfl (.tmp 76) (.tmp 78) 34 rfl V.heap.size 22 j0 (.int .u64 0) 1 8 Try.underlying34 ji jz0 jz1 jz2 rfl (by decide) _ _ _ rfl O0 _ _ _ rfl F0 s1 s2 s0 ?_; intro v' V1 O1 G1)
  have b1 : Below V.heap.size V V1 := ((Below.refl _ V).alloc (Nat.le_refl _) _).grown G1 s0 hrow
  simp only [Nat.zero_add, List.nil_append] at O1
  obtain ⟨g', c', rfl, hg2, hg3⟩ := own_open O1 (by have := HL.out; omega)
  have AM1 := AM.below b1
  have AX1 := AX.below b1
  have AR1 := AR.below b1
  have B1 : Below w.heap.size w V1 := hB.trans (b1.mono hB.size)
  have R1 := R'.below b1
  clear O0 F0 m0 m1 s0 s1 s2 G1 hrow AM AX AR R' hwx
  have m0 := AM1.cell 0 rfl
  have m1 := AM1.cell 1 rfl
  have x0 := AX1.cell 0 rfl
  have x1 := AX1.cell 1 rfl
  have x2 := AX1.cell 2 rfl
  have x3 := AX1.cell 3 rfl
  have cA := O1.cellAt i (by have := HL.out; omega)
  have cB := cA.trans HWX.out
  clear cA
  have fA := O1.frozenAt i

  go_wp2_with (refine wpList_store_row rfl 62 (.tmp 4) (.tmp 105) rfl (w.heap.size + 1 + 1) #[.slice (some ⟨g1, 0, none⟩) W.length c1, .slice a2 B.length c2] rfl rfl 62 _ AR1 (info62 _ _) rfl (one41 _ _ _ _ _ _) ?_)
  refine bodyPost_ret (results_row_tmp (p := 4) (u := 5) (ty := 62) rfl _ _ (w.heap.size + 1 + 1) 62 #[.slice (some ⟨g1, 0, none⟩) W.length c1, .slice a2 B.length c2] (0, 0) _ _ rfl rfl (setRow_heap _ _ _ _ _ _ AR1) Try.underlying62 rfl (info62 _ _)) rfl ?_
  refine ⟨_, _, by rw [HT.out]; rfl, ?_, below_setRow B1 (by omega) _⟩
  rw [HW.out, HBB.out, HX.out, set_getD]
  exact R1.setRow _ _ (fun k hk => by simp [Value.ownBlock] at hk; omega) (fun k hk => by have := N2.out k hk; omega)
set_option maxRecDepth 100000 in
set_option maxHeartbeats 2000000 in
theorem ref4_in4 (base : Nat) (v1 v2 : Value) (W B : List Int) (w : World) (R : Ref w base v1 v2 W B) (hb : base ≤ w.heap.size) (l1 : W.length ≤ 2097152) (l2 : B.length ≤ 1048576) (i : Nat) (a b : Int) (h : i < W.length) (a0 : 0 ≤ a) (a1' : a < 18446744073709551616) : Calls Try.prog 38 #[.agg #[v1, v2], .agg #[.int .u8 4, .int .i64 i, .int .u64 a, .int .u64 b]] w (RefDo4 base W B 4 i a b w) := by
  have hiw := inW_yes W 4 i h (by decide) (by decide)
  have hbb : inB B 4 i = false := by simp [inB]
  obtain ⟨x, hx⟩ : ∃ x, x = W.getD i 0 := ⟨_, rfl⟩

  have HT := Lib.hid (show tD W B 4 i a = x from by rw [tD_yes _ _ _ _ _ h (by decide) (by decide), ← hx]; simp [toldW])
  have HW := Lib.hid (show wD W 4 i a b = W.set i ((x + a) % 18446744073709551616) from by rw [wD_yes _ _ _ _ _ h (by decide) (by decide), ← hx]; simp [nowW])
  have HBB := Lib.hid (show bD B 4 i a = B from by simp [bD])
  have hwx : (W.map (Value.int .u64))[i]? = some (.int .u64 x) := by rw [hx]; simp [List.getD, h]
  have HWX := Lib.hid hwx
  have hset0 : (W.map (Value.int .u64)).set i (.int .u64 x) = W.map (Value.int .u64) := by
    rw [← List.map_set, hx, set_getD]
  have HS0 := Lib.hid hset0
  have HX := Lib.hid hx


  clear hiw hbb hx hset0
  have i0 : (0 : Int) ≤ (i : Int) := by omega
  have i1 : (i : Int) < (W.length : Int) := by omega
  obtain ⟨g1, c1, rfl, hg1, hg1'⟩ := own_open R.words (by omega)
  obtain ⟨a2, c2, rfl⟩ := own_shape R.bytes
  have N2 := Lib.hid (fun k hk => (R.bytes.lt k hk).2)
  obtain ⟨j0, ji, jz0, jz1, jz2⟩ := info_parts Try.info22
  have HL := Lib.hid h
  clear h
  go_enter Try.func38, Try.ntmps38
  go_upto_region 1 with fail
  generalize hV : World.alloc (World.alloc (World.alloc w _) _) _ = V
  have hB : Below w.heap.size w V := hV ▸ al3_b w _ _ _
  have AM : At V w.heap.size #[.slice (some ⟨g1, 0, none⟩) W.length c1, .slice a2 B.length c2] 62 := hV ▸ al3_0 w _ _ _
  have AX : At V (w.heap.size + 1) #[.int .u8 4, .int .i64 i, .int .u64 a, .int .u64 b] 30 := hV ▸ al3_1 w _ _ _
  have AR : At V (w.heap.size + 1 + 1) #[.slice none 0 0, .slice none 0 0] 62 := hV ▸ al3_2 w _ _ _
  have hVs : w.heap.size + 1 + 1 + 1 = V.heap.size := by rw [← hV]; simp
  have R' := R.below hB
  clear hV R
  have m0 := AM.cell 0 rfl
  have m1 := AM.cell 1 rfl
  have x0 := AX.cell 0 rfl
  have x1 := AX.cell 1 rfl
  have x2 := AX.cell 2 rfl
  have x3 := AX.cell 3 rfl
  go_upto_region 12 with fail
  clear m0 m1 x0 x1 x2 x3
  have O0 : (V.alloc (.cells #[] 22)).ownsRow V.heap.size 22 1 (.slice (some ⟨V.heap.size, 0, none⟩) 0 0) 0 [] := World.ownsRow_made V #[] 0 (Nat.le_refl _) (Nat.zero_le _) rfl
  have F0 : Frm (V.alloc (.cells #[] 22)) (.slice (some ⟨g1, 0, none⟩) W.length c1) W.length 1 (W.map (Value.int .u64)) := frm_own (R'.words.alloc _) (one_map _ _)
  have m0 := (AM.alloc (.cells #[] 22)).cell 0 rfl
  have m1 := (AM.alloc (.cells #[] 22)).cell 1 rfl
  have s0 : V.heap.size ≤ (V.alloc (.cells #[] 22)).heap.size := by simp
  have hrow : ∀ j, (Value.slice (some ⟨V.heap.size, 0, none⟩) 0 0).ownBlock = some j → V.heap.size ≤ j := by intro j hj; simp [Value.ownBlock] at hj; omega
  have s1 : 0 + W.length ≤ maxLen := by unfold maxLen; omega
  have s2 : (0 + W.length) * 8 ≤ 140737488355328 := by omega
  go_upto_region 13 with (at_builtin; refine wpList_append_frm rfl (.tmp 76) (.tmp 78) 34 rfl V.heap.size 22 j0 (.int .u64 0) 1 8 Try.underlying34 ji jz0 jz1 jz2 rfl (by decide) _ _ _ rfl O0 _ _ _ rfl F0 s1 s2 s0 ?_; intro v' V1 O1 G1)
  have b1 : Below V.heap.size V V1 := ((Below.refl _ V).alloc (Nat.le_refl _) _).grown G1 s0 hrow
  simp only [Nat.zero_add, List.nil_append] at O1
  obtain ⟨g', c', rfl, hg2, hg3⟩ := own_open O1 (by have := HL.out; omega)
  have AM1 := AM.below b1
  have AX1 := AX.below b1
  have AR1 := AR.below b1
  have B1 : Below w.heap.size w V1 := hB.trans (b1.mono hB.size)
  have R1 := R'.below b1
  clear O0 F0 m0 m1 s0 s1 s2 G1 hrow AM AX AR R' hwx
  have m0 := AM1.cell 0 rfl
  have m1 := AM1.cell 1 rfl
  have x0 := AX1.cell 0 rfl
  have x1 := AX1.cell 1 rfl
  have x2 := AX1.cell 2 rfl
  have x3 := AX1.cell 3 rfl
  have cA := O1.cellAt i (by have := HL.out; omega)
  have cB := cA.trans HWX.out
  clear cA
  have fA := O1.frozenAt i
  have hA : IntKind.u64.wrap (x + a) = (x + a) % 18446744073709551616 := rfl
  go_upto_region 27 with fail
  clear cB fA
  clear m0 m1 x0 x1 x2 x3
  have O2 := (O1.stored i (.int .u64 ((x + a) % 18446744073709551616))).1
  have AM2 := at_set AM1 ⟨g', i, none⟩ (.int .u64 ((x + a) % 18446744073709551616)) (by simp; omega)
  have AR2 := at_set AR1 ⟨g', i, none⟩ (.int .u64 ((x + a) % 18446744073709551616)) (by simp; omega)
  have B2 : Below w.heap.size w (V1.setCell ⟨g', i, none⟩ (.int .u64 ((x + a) % 18446744073709551616))) := B1.setCell (by simp; omega) (.int .u64 ((x + a) % 18446744073709551616))
  have RB2 : (V1.setCell ⟨g', i, none⟩ (.int .u64 ((x + a) % 18446744073709551616))).ownsRow base 5 1 (.slice a2 B.length c2) B.length (B.map (Value.int .u8)) := own_cell R1.bytes _ _ (fun k hk => by have := N2.out k hk; show k ≠ g'; omega)
  generalize World.setCell V1 ⟨g', i, none⟩ (.int .u64 ((x + a) % 18446744073709551616)) = V2 at *
  clear O1 AM1 AR1 B1 R1 AX1
  rw [← List.map_set] at O2
  have m0 := AM2.cell 0 rfl
  have f0 := frozen_of_row _ _ 0 _ _ AM2
  go_upto_region 28 with fail
  have AM3 : At (V2.setCell ⟨w.heap.size, 0, none⟩ (.slice (some ⟨g', 0, none⟩) W.length c')) w.heap.size #[.slice (some ⟨g', 0, none⟩) W.length c', .slice a2 B.length c2] 62 := heap_setCell_same _ _ 0 _ 62 _ AM2
  have AR3 := at_set AR2 ⟨w.heap.size, 0, none⟩ (.slice (some ⟨g', 0, none⟩) W.length c') (by simp; omega)
  have B3 : Below w.heap.size w (V2.setCell ⟨w.heap.size, 0, none⟩ (.slice (some ⟨g', 0, none⟩) W.length c')) := B2.setCell (Nat.le_refl _) _
  have RB3 := own_cell RB2 ⟨w.heap.size, 0, none⟩ (.slice (some ⟨g', 0, none⟩) W.length c') (fun k hk => by have := N2.out k hk; show k ≠ w.heap.size; omega)
  have O3 := own_cell O2 ⟨w.heap.size, 0, none⟩ (.slice (some ⟨g', 0, none⟩) W.length c') (fun k hk => by simp [Value.ownBlock] at hk; show k ≠ w.heap.size; omega)
  generalize World.setCell V2 ⟨w.heap.size, 0, none⟩ (.slice (some ⟨g', 0, none⟩) W.length c') = V3 at *
  clear m0 f0 AM2 AR2 B2 RB2 O2
  have m0 := AM3.cell 0 rfl
  have m1 := AM3.cell 1 rfl
  go_wp2_with (refine wpList_store_row rfl 62 (.tmp 4) (.tmp 124) rfl (w.heap.size + 1 + 1) #[.slice (some ⟨g', 0, none⟩) W.length c', .slice a2 B.length c2] rfl rfl 62 _ AR3 (info62 _ _) rfl (one41 _ _ _ _ _ _) ?_)
  refine bodyPost_ret (results_row_tmp (p := 4) (u := 5) (ty := 62) rfl _ _ (w.heap.size + 1 + 1) 62 #[.slice (some ⟨g', 0, none⟩) W.length c', .slice a2 B.length c2] (0, 0) _ _ rfl rfl (setRow_heap _ _ _ _ _ _ AR3) Try.underlying62 rfl (info62 _ _)) rfl ?_
  refine ⟨_, _, by rw [HT.out]; rfl, ?_, below_setRow B3 (by omega) _⟩
  rw [HW.out, HBB.out]
  refine ⟨?_, own_setRow RB3 _ _ (fun k hk => by have := N2.out k hk; omega)⟩
  rw [List.length_set]
  exact own_base (own_setRow O3 _ _ (fun k hk => by simp [Value.ownBlock] at hk; omega)) (by omega)
set_option maxRecDepth 100000 in
set_option maxHeartbeats 2000000 in
theorem ref4_in5 (base : Nat) (v1 v2 : Value) (W B : List Int) (w : World) (R : Ref w base v1 v2 W B) (hb : base ≤ w.heap.size) (l1 : W.length ≤ 2097152) (l2 : B.length ≤ 1048576) (i : Nat) (a b : Int) (h : i < B.length) (bw : ∀ x ∈ B, 0 ≤ x ∧ x < 256) (a0 : 0 ≤ a) (a1' : a < 18446744073709551616) : Calls Try.prog 38 #[.agg #[v1, v2], .agg #[.int .u8 5, .int .i64 i, .int .u64 a, .int .u64 b]] w (RefDo4 base W B 5 i a b w) := by
  have hib : inB B 5 i = true := by simp [inB]; omega
  have hww : inW W 5 i = false := by simp [inW]
  obtain ⟨x, hx⟩ : ∃ x, x = B.getD i 0 := ⟨_, rfl⟩
  have HT := Lib.hid (show tD W B 5 i a = x from by simp [tD, hww, hib, hx])
  have HW := Lib.hid (show wD W 5 i a b = W from by simp [wD, hww])
  have HBB := Lib.hid (show bD B 5 i a = B from by simp [bD])
  have hwx : (B.map (Value.int .u8))[i]? = some (.int .u8 x) := by rw [hx]; simp [List.getD, h]
  have HWX := Lib.hid hwx
  obtain ⟨y0, y1⟩ := getD_wf bw i h
  rw [← hx] at y0 y1
  clear hib hww hx bw
  have i0 : (0 : Int) ≤ (i : Int) := by omega
  have i1 : (i : Int) < (B.length : Int) := by omega
  obtain ⟨a1, c1, rfl⟩ := own_shape R.words
  obtain ⟨g2, c2, rfl, hg1, hg1'⟩ := own_open R.bytes (by omega)
  have N1 := Lib.hid (fun k hk => (R.words.lt k hk).2)
  obtain ⟨j0, ji, jz0, jz1, jz2⟩ := info_parts Try.info5
  have HL := Lib.hid h
  clear h
  go_enter Try.func38, Try.ntmps38
  go_upto_region 1 with fail
  generalize hV : World.alloc (World.alloc (World.alloc w _) _) _ = V
  have hB : Below w.heap.size w V := hV ▸ al3_b w _ _ _
  have AM : At V w.heap.size #[.slice a1 W.length c1, .slice (some ⟨g2, 0, none⟩) B.length c2] 62 := hV ▸ al3_0 w _ _ _
  have AX : At V (w.heap.size + 1) #[.int .u8 5, .int .i64 i, .int .u64 a, .int .u64 b] 30 := hV ▸ al3_1 w _ _ _
  have AR : At V (w.heap.size + 1 + 1) #[.slice none 0 0, .slice none 0 0] 62 := hV ▸ al3_2 w _ _ _
  have hVs : w.heap.size + 1 + 1 + 1 = V.heap.size := by rw [← hV]; simp
  have R' := R.below hB
  clear hV R
  have m0 := AM.cell 0 rfl
  have m1 := AM.cell 1 rfl
  have x0 := AX.cell 0 rfl
  have x1 := AX.cell 1 rfl
  have x2 := AX.cell 2 rfl
  have x3 := AX.cell 3 rfl
  have cw := (R'.bytes.cellAt i (by have := HL.out; omega)).trans hwx
  go_upto_region 5 with fail
  have r0 := AR.cell 0 rfl
  have r1 := AR.cell 1 rfl
  have f0 := frozen_of_row _ _ 0 _ _ AR
  have f1 := frozen_of_row _ _ 1 _ _ AR
  clear HWX hwx
  have hux : IntKind.u64.wrap x = x := by show x % 18446744073709551616 = x; omega
  have hne1 : w.heap.size + 1 + 1 ≠ g2 := by omega
  have hne2 : w.heap.size + 1 + 1 ≠ w.heap.size := by omega
  have hne3 : w.heap.size ≠ w.heap.size + 1 + 1 := by omega
  have hne4 : g2 ≠ w.heap.size + 1 + 1 := by omega
  go_region_held3 (fun w' => w'.cell? ⟨w.heap.size, 0, none⟩ = some (.slice a1 W.length c1) ∧ w'.cell? ⟨w.heap.size, 1, none⟩ = some (.slice (some ⟨g2, 0, none⟩) B.length c2) ∧ w'.cell? ⟨w.heap.size + 1, 1, none⟩ = some (.int .i64 i) ∧ w'.cell? ⟨g2, i, none⟩ = some (.int .u8 x)) (go_keep) (fail)
  all_goals go_wp2_with fail
  all_goals
    refine bodyPost_ret (results_row_tmp (p := 4) (u := 5) (ty := 62) rfl _ _ (w.heap.size + 1 + 1) 62 #[.slice a1 W.length c1, .slice (some ⟨g2, 0, none⟩) B.length c2] (0, 0) _ _ rfl rfl (set_two4 AR _ _) Try.underlying62 rfl (info62 _ _)) rfl ?_
    refine ⟨_, _, by rw [HT.out]; rfl, ?_, ((hB.setCell (by simp; omega) _).setCell (by simp; omega) _).drew⟩
    rw [HW.out, HBB.out]
    exact ⟨(own_two4 R'.words (w.heap.size + 1 + 1) _ _ (fun k hk => by have := N1.out k hk; omega)), (own_two4 R'.bytes (w.heap.size + 1 + 1) _ _ (fun k hk => by simp [Value.ownBlock] at hk; omega))⟩
set_option maxRecDepth 100000 in
set_option maxHeartbeats 2000000 in
theorem ref4_in6 (base : Nat) (v1 v2 : Value) (W B : List Int) (w : World) (R : Ref w base v1 v2 W B) (hb : base ≤ w.heap.size) (l1 : W.length ≤ 2097152) (l2 : B.length ≤ 1048576) (i : Nat) (a b : Int) (h : i < B.length) (bw : ∀ x ∈ B, 0 ≤ x ∧ x < 256) (a0 : 0 ≤ a) (a1' : a < 18446744073709551616) : Calls Try.prog 38 #[.agg #[v1, v2], .agg #[.int .u8 6, .int .i64 i, .int .u64 a, .int .u64 b]] w (RefDo4 base W B 6 i a b w) := by
  have hib : inB B 6 i = true := by simp [inB]; omega
  have hww : inW W 6 i = false := by simp [inW]
  obtain ⟨x, hx⟩ : ∃ x, x = B.getD i 0 := ⟨_, rfl⟩
  have HT := Lib.hid (show tD W B 6 i a = 0 from by simp [tD, hww])
  have HW := Lib.hid (show wD W 6 i a b = W from by simp [wD, hww])
  have HBB := Lib.hid (show bD B 6 i a = B.set i (a % 256) from by simp [bD, hib])
  have hwx : (B.map (Value.int .u8))[i]? = some (.int .u8 x) := by rw [hx]; simp [List.getD, h]
  have HWX := Lib.hid hwx
  obtain ⟨y0, y1⟩ := getD_wf bw i h
  rw [← hx] at y0 y1
  clear hib hww hx bw
  have i0 : (0 : Int) ≤ (i : Int) := by omega
  have i1 : (i : Int) < (B.length : Int) := by omega
  obtain ⟨a1, c1, rfl⟩ := own_shape R.words
  obtain ⟨g2, c2, rfl, hg1, hg1'⟩ := own_open R.bytes (by omega)
  have N1 := Lib.hid (fun k hk => (R.words.lt k hk).2)
  obtain ⟨j0, ji, jz0, jz1, jz2⟩ := info_parts Try.info5
  have HL := Lib.hid h
  clear h
  go_enter Try.func38, Try.ntmps38
  go_upto_region 1 with fail
  generalize hV : World.alloc (World.alloc (World.alloc w _) _) _ = V
  have hB : Below w.heap.size w V := hV ▸ al3_b w _ _ _
  have AM : At V w.heap.size #[.slice a1 W.length c1, .slice (some ⟨g2, 0, none⟩) B.length c2] 62 := hV ▸ al3_0 w _ _ _
  have AX : At V (w.heap.size + 1) #[.int .u8 6, .int .i64 i, .int .u64 a, .int .u64 b] 30 := hV ▸ al3_1 w _ _ _
  have AR : At V (w.heap.size + 1 + 1) #[.slice none 0 0, .slice none 0 0] 62 := hV ▸ al3_2 w _ _ _
  have hVs : w.heap.size + 1 + 1 + 1 = V.heap.size := by rw [← hV]; simp
  have R' := R.below hB
  clear hV R
  have m0 := AM.cell 0 rfl
  have m1 := AM.cell 1 rfl
  have x0 := AX.cell 0 rfl
  have x1 := AX.cell 1 rfl
  have x2 := AX.cell 2 rfl
  have x3 := AX.cell 3 rfl
  go_upto_region 6 with fail
  clear m0 m1 x0 x1 x2 x3
  have O0 : (V.alloc (.cells #[] 5)).ownsRow V.heap.size 5 1 (.slice (some ⟨V.heap.size, 0, none⟩) 0 0) 0 [] := World.ownsRow_made V #[] 0 (Nat.le_refl _) (Nat.zero_le _) rfl
  have F0 : Frm (V.alloc (.cells #[] 5)) (.slice (some ⟨g2, 0, none⟩) B.length c2) B.length 1 (B.map (Value.int .u8)) := frm_own (R'.bytes.alloc _) (one_map _ _)
  have m0 := (AM.alloc (.cells #[] 5)).cell 0 rfl
  have m1 := (AM.alloc (.cells #[] 5)).cell 1 rfl
  have s0 : V.heap.size ≤ (V.alloc (.cells #[] 5)).heap.size := by simp
  have hrow : ∀ j, (Value.slice (some ⟨V.heap.size, 0, none⟩) 0 0).ownBlock = some j → V.heap.size ≤ j := by intro j hj; simp [Value.ownBlock] at hj; omega
  have s1 : 0 + B.length ≤ maxLen := by unfold maxLen; omega
  have s2 : (0 + B.length) * 1 ≤ 140737488355328 := by omega
  go_upto_region 7 with (at_builtin; refine wpList_append_frm rfl (.tmp 40) (.tmp 42) 36 rfl V.heap.size 5 j0 (.int .u8 0) 1 1 Try.underlying36 ji jz0 jz1 jz2 rfl (by decide) _ _ _ rfl O0 _ _ _ rfl F0 s1 s2 s0 ?_; intro v' V1 O1 G1)
  have b1 : Below V.heap.size V V1 := ((Below.refl _ V).alloc (Nat.le_refl _) _).grown G1 s0 hrow
  simp only [Nat.zero_add, List.nil_append] at O1
  obtain ⟨g', c', rfl, hg2, hg3⟩ := own_open O1 (by have := HL.out; omega)
  have AM1 := AM.below b1
  have AX1 := AX.below b1
  have AR1 := AR.below b1
  have B1 : Below w.heap.size w V1 := hB.trans (b1.mono hB.size)
  have R1 := R'.below b1
  clear O0 F0 m0 m1 s0 s1 s2 G1 hrow AM AX AR R'
  have m0 := AM1.cell 0 rfl
  have m1 := AM1.cell 1 rfl
  have x0 := AX1.cell 0 rfl
  have x1 := AX1.cell 1 rfl
  have x2 := AX1.cell 2 rfl
  have x3 := AX1.cell 3 rfl
  have cA := O1.cellAt i (by have := HL.out; omega)
  have cB := cA.trans HWX.out
  clear cA
  have fA := O1.frozenAt i
  have am0 : 0 ≤ a % 256 := by omega
  have am1 : a % 256 < 256 := by omega
  go_upto_region 8 with fail
  clear cB fA am0 am1
  clear m0 m1 x0 x1 x2 x3
  have O2 := (O1.stored i (.int .u8 (a % 256))).1
  have AM2 := at_set AM1 ⟨g', i, none⟩ (.int .u8 (a % 256)) (by simp; omega)
  have AR2 := at_set AR1 ⟨g', i, none⟩ (.int .u8 (a % 256)) (by simp; omega)
  have B2 : Below w.heap.size w (V1.setCell ⟨g', i, none⟩ (.int .u8 (a % 256))) := B1.setCell (by simp; omega) (.int .u8 (a % 256))
  have RB2 : (V1.setCell ⟨g', i, none⟩ (.int .u8 (a % 256))).ownsRow base 22 1 (.slice a1 W.length c1) W.length (W.map (Value.int .u64)) := own_cell R1.words _ _ (fun k hk => by have := N1.out k hk; show k ≠ g'; omega)
  generalize World.setCell V1 ⟨g', i, none⟩ (.int .u8 (a % 256)) = V2 at *
  clear O1 AM1 AR1 B1 R1 AX1
  rw [← List.map_set] at O2
  have m1 := AM2.cell 1 rfl
  have f1 := frozen_of_row _ _ 1 _ _ AM2
  go_upto_region 9 with fail
  have AM3 : At (V2.setCell ⟨w.heap.size, 1, none⟩ (.slice (some ⟨g', 0, none⟩) B.length c')) w.heap.size #[.slice a1 W.length c1, .slice (some ⟨g', 0, none⟩) B.length c'] 62 := heap_setCell_same _ _ 1 _ 62 _ AM2
  have AR3 := at_set AR2 ⟨w.heap.size, 1, none⟩ (.slice (some ⟨g', 0, none⟩) B.length c') (by simp; omega)
  have B3 : Below w.heap.size w (V2.setCell ⟨w.heap.size, 1, none⟩ (.slice (some ⟨g', 0, none⟩) B.length c')) := B2.setCell (Nat.le_refl _) _
  have RB3 := own_cell RB2 ⟨w.heap.size, 1, none⟩ (.slice (some ⟨g', 0, none⟩) B.length c') (fun k hk => by have := N1.out k hk; show k ≠ w.heap.size; omega)
  have O3 := own_cell O2 ⟨w.heap.size, 1, none⟩ (.slice (some ⟨g', 0, none⟩) B.length c') (fun k hk => by simp [Value.ownBlock] at hk; show k ≠ w.heap.size; omega)
  generalize World.setCell V2 ⟨w.heap.size, 1, none⟩ (.slice (some ⟨g', 0, none⟩) B.length c') = V3 at *
  clear m1 f1 AM2 AR2 B2 RB2 O2
  have m0 := AM3.cell 0 rfl
  have m1 := AM3.cell 1 rfl
  go_wp2_with (refine wpList_store_row rfl 62 (.tmp 4) (.tmp 53) rfl (w.heap.size + 1 + 1) #[.slice a1 W.length c1, .slice (some ⟨g', 0, none⟩) B.length c'] rfl rfl 62 _ AR3 (info62 _ _) rfl (one41 _ _ _ _ _ _) ?_)
  refine bodyPost_ret (results_row_tmp (p := 4) (u := 5) (ty := 62) rfl _ _ (w.heap.size + 1 + 1) 62 #[.slice a1 W.length c1, .slice (some ⟨g', 0, none⟩) B.length c'] (0, 0) _ _ rfl rfl (setRow_heap _ _ _ _ _ _ AR3) Try.underlying62 rfl (info62 _ _)) rfl ?_
  refine ⟨_, _, by rw [HT.out]; rfl, ?_, below_setRow B3 (by omega) _⟩
  rw [HW.out, HBB.out]
  refine ⟨own_setRow RB3 _ _ (fun k hk => by have := N1.out k hk; omega), ?_⟩
  rw [List.length_set]
  exact own_base (own_setRow O3 _ _ (fun k hk => by simp [Value.ownBlock] at hk; omega)) (by omega)

theorem ref4_do (base : Nat) (v1 v2 : Value) (W B : List Int) (w : World) (R : Ref w base v1 v2 W B) (hb : base ≤ w.heap.size) (l1 : W.length ≤ 2097152) (l2 : B.length ≤ 1048576) (k t a b : Int) (bw : ∀ x ∈ B, 0 ≤ x ∧ x < 256) (k0 : 1 ≤ k) (k1 : k ≤ 6) (a0 : 0 ≤ a) (a1 : a < 18446744073709551616) : Calls Try.prog 38 #[.agg #[v1, v2], .agg #[.int .u8 k, .int .i64 t, .int .u64 a, .int .u64 b]] w (RefDo4 base W B k t a b w) := by
  by_cases h4 : k ≤ 4
  · by_cases ht : t < 0 ∨ (W.length : Int) ≤ t
    · rcases (show k = 1 ∨ k = 2 ∨ k = 3 ∨ k = 4 by omega) with rfl | rfl | rfl | rfl
      · exact ref4_out1 base v1 v2 W B w R hb l1 l2 t a b ht
      · exact ref4_out2 base v1 v2 W B w R hb l1 l2 t a b ht
      · exact ref4_out3 base v1 v2 W B w R hb l1 l2 t a b ht
      · exact ref4_out4 base v1 v2 W B w R hb l1 l2 t a b ht
    · obtain ⟨i, rfl⟩ : ∃ i : Nat, t = i := ⟨t.toNat, by omega⟩
      have hi : i < W.length := by omega
      rcases (show k = 1 ∨ k = 2 ∨ k = 3 ∨ k = 4 by omega) with rfl | rfl | rfl | rfl
      · exact ref4_in1 base v1 v2 W B w R hb l1 l2 i a b hi a0 a1
      · exact ref4_in2 base v1 v2 W B w R hb l1 l2 i a b hi a0 a1
      · by_cases hx : W.getD i 0 = a
        · exact ref4_in3y base v1 v2 W B w R hb l1 l2 i a b hi a0 a1 hx
        · exact ref4_in3n base v1 v2 W B w R hb l1 l2 i a b hi a0 a1 hx
      · exact ref4_in4 base v1 v2 W B w R hb l1 l2 i a b hi a0 a1
  · by_cases ht : t < 0 ∨ (B.length : Int) ≤ t
    · rcases (show k = 5 ∨ k = 6 by omega) with rfl | rfl
      · exact ref4_out5 base v1 v2 W B w R hb l1 l2 t a b ht
      · exact ref4_out6 base v1 v2 W B w R hb l1 l2 t a b ht
    · obtain ⟨i, rfl⟩ : ∃ i : Nat, t = i := ⟨t.toNat, by omega⟩
      have hi : i < B.length := by omega
      rcases (show k = 5 ∨ k = 6 by omega) with rfl | rfl
      · exact ref4_in5 base v1 v2 W B w R hb l1 l2 i a b hi bw a0 a1
      · exact ref4_in6 base v1 v2 W B w R hb l1 l2 i a b hi bw a0 a1
end Go.Proofs.Ytmdagppeeejikaa
