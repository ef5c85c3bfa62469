/- The reference's Do (quilletref03), in range. Condition: the numbers fit their kinds. -/
import Derived.Test.YtmdagppeeejikaaMr
import Derived.Deep.Cut
namespace Go.Proofs.Ytmdagppeeejikaa
open Go.RowKit
set_option linter.unusedVariables false

theorem at_setCell {w : World} {b : Nat} {cs : Array Value} {t : TypeId} (h : At w b cs t) (q : Addr) (v : Value) (hne : b ≠ q.block) : At (w.setCell q v) b cs t := by
  unfold At
  rw [heap_setCell_other _ _ _ _ hne]
  exact h
theorem below_setCell {B : Nat} {a w : World} (h : Below B a w) (q : Addr) (hq : B ≤ q.block) (v : Value) : Below B a (w.setCell q v) := h.setCell hq v

set_option maxRecDepth 100000 in
set_option maxHeartbeats 2000000 in
theorem ref_in1 (base : Nat) (v1 v2 : Value) (W B : List Int) (w : World) (R : Ref w base v1 v2 W B) (hb : base ≤ w.heap.size) (l1 : W.length ≤ 2097152) (l2 : B.length ≤ 1048576) (i : Nat) (a b : Int) (h : i < W.length) (a0 : 0 ≤ a) (a1' : a < 18446744073709551616) : Calls Try.prog 22 #[.agg #[v1, v2], .agg #[.int .u8 1, .int .i64 i, .int .u64 a, .int .u64 b]] w (RefDo base W B 1 i a b w) := by
  have hiw := inW_yes W 1 i h (by decide) (by decide)
  have hbb : inB B 1 i = false := by simp [inB]
  obtain ⟨x, hx⟩ : ∃ x, x = W.getD i 0 := ⟨_, rfl⟩
  have HO := Lib.hid (show okD W B 1 i = true from by simp [okD, hiw])

  have HT := Lib.hid (show tD W B 1 i a = x from by rw [tD_yes _ _ _ _ _ h (by decide) (by decide), ← hx]; simp [toldW])
  have HW := Lib.hid (show wD W 1 i a b = W.set i x from by rw [wD_yes _ _ _ _ _ h (by decide) (by decide), ← hx]; simp [nowW])
  have HBB := Lib.hid (show bD B 1 i a = B from by simp [bD])
  have hwx : (W.map (Value.int .u64))[i]? = some (.int .u64 x) := by rw [hx]; simp [List.getD, h]
  have HWX := Lib.hid hwx
  have hset0 : (W.map (Value.int .u64)).set i (.int .u64 x) = W.map (Value.int .u64) := by
    rw [← List.map_set, hx, set_getD]
  have HS0 := Lib.hid hset0
  have HX := Lib.hid hx


  clear hiw hbb hx hset0
  have i0 : (0 : Int) ≤ (i : Int) := by omega
  have i1 : (i : Int) < (W.length : Int) := by omega
  obtain ⟨g1, c1, rfl, hg1, hg1'⟩ := own_open R.words (by omega)
  obtain ⟨a2, c2, rfl⟩ := own_shape R.bytes
  have N2 := Lib.hid (fun k hk => (R.bytes.lt k hk).2)
  obtain ⟨j0, ji, jz0, jz1, jz2⟩ := info_parts Try.info22
  have HL := Lib.hid h
  clear h
  go_enter Try.func22, Try.ntmps22
  go_upto_region 1 with fail
  generalize hV : World.alloc (World.alloc (World.alloc w _) _) _ = V
  have hB : Below w.heap.size w V := hV ▸ al3_b w _ _ _
  have AM : At V w.heap.size #[.slice (some ⟨g1, 0, none⟩) W.length c1, .slice a2 B.length c2] 41 := hV ▸ al3_0 w _ _ _
  have AX : At V (w.heap.size + 1) #[.int .u8 1, .int .i64 i, .int .u64 a, .int .u64 b] 30 := hV ▸ al3_1 w _ _ _
  have AR : At V (w.heap.size + 1 + 1) #[.slice none 0 0, .slice none 0 0] 41 := hV ▸ al3_2 w _ _ _
  have hVs : w.heap.size + 1 + 1 + 1 = V.heap.size := by rw [← hV]; simp
  have R' := R.below hB
  clear hV R
  have m0 := AM.cell 0 rfl
  have m1 := AM.cell 1 rfl
  have x0 := AX.cell 0 rfl
  have x1 := AX.cell 1 rfl
  have x2 := AX.cell 2 rfl
  have x3 := AX.cell 3 rfl
  have cw := (R'.words.cellAt i (by have := HL.out; omega)).trans hwx
  go_upto_region 12 with fail
  clear cw hwx
  clear m0 m1 x0 x1 x2 x3
  have O0 : (V.alloc (.cells #[] 22)).ownsRow V.heap.size 22 1 (.slice (some ⟨V.heap.size, 0, none⟩) 0 0) 0 [] := World.ownsRow_made V #[] 0 (Nat.le_refl _) (Nat.zero_le _) rfl
  have F0 : Frm (V.alloc (.cells #[] 22)) (.slice (some ⟨g1, 0, none⟩) W.length c1) W.length 1 (W.map (Value.int .u64)) := frm_own (R'.words.alloc _) (one_map _ _)
  have m0 := (AM.alloc (.cells #[] 22)).cell 0 rfl
  have m1 := (AM.alloc (.cells #[] 22)).cell 1 rfl
  have s0 : V.heap.size ≤ (V.alloc (.cells #[] 22)).heap.size := by simp
  have hrow : ∀ j, (Value.slice (some ⟨V.heap.size, 0, none⟩) 0 0).ownBlock = some j → V.heap.size ≤ j := by intro j hj; simp [Value.ownBlock] at hj; omega
  have s1 : 0 + W.length ≤ maxLen := by unfold maxLen; omega
  have s2 : (0 + W.length) * 8 ≤ 140737488355328 := by omega
  go_upto_region 13 with (at_builtin; refine wpList_append_frm rfl (.tmp 86) (.tmp 88) 34 rfl V.heap.size 22 j0 (.int .u64 0) 1 8 Try.underlying34 ji jz0 jz1 jz2 rfl (by decide) _ _ _ rfl O0 _ _ _ rfl F0 s1 s2 s0 ?_; intro v' V1 O1 G1)
  have b1 : Below V.heap.size V V1 := ((Below.refl _ V).alloc (Nat.le_refl _) _).grown G1 s0 hrow
  simp only [Nat.zero_add, List.nil_append] at O1
  obtain ⟨g', c', rfl, hg2, hg3⟩ := own_open O1 (by have := HL.out; omega)
  have AM1 := AM.below b1
  have AX1 := AX.below b1
  have AR1 := AR.below b1
  have B1 : Below w.heap.size w V1 := hB.trans (b1.mono hB.size)
  have R1 := R'.below b1
  clear O0 F0 m0 m1 s0 s1 s2 G1 hrow AM AX AR R'
  have m0 := AM1.cell 0 rfl
  have m1 := AM1.cell 1 rfl
  have x0 := AX1.cell 0 rfl
  have x1 := AX1.cell 1 rfl
  have x2 := AX1.cell 2 rfl
  have x3 := AX1.cell 3 rfl
  have cA := O1.cellAt i (by have := HL.out; omega)
  have cB := cA.trans HWX.out
  clear cA
  have fA := O1.frozenAt i

  go_upto_region 26 with fail
  clear cB fA
  clear m0 m1 x0 x1 x2 x3
  have O2 := O1
  rw [← HS0.out] at O2
  have AM2 := AM1
  have AR2 := AR1
  have B2 := B1
  have RB2 := R1.bytes
  clear O1 AM1 AR1 B1 R1 AX1
  rw [← List.map_set] at O2
  have m0 := AM2.cell 0 rfl
  have m1 := AM2.cell 1 rfl
  go_wp2_with (refine wpList_store_row rfl 41 (.tmp 4) (.tmp 129) rfl (w.heap.size + 1 + 1) #[.slice (some ⟨g', 0, none⟩) W.length c', .slice a2 B.length c2] rfl rfl 41 _ AR2 (info41 _ _) rfl (one41 _ _ _ _ _ _) ?_)
  refine bodyPost_ret (results_row_tmp2 (p := 4) (u := 5) (u' := 6) (ty := 41) rfl _ _ (w.heap.size + 1 + 1) 41 #[.slice (some ⟨g', 0, none⟩) W.length c', .slice a2 B.length c2] (0, 0) _ _ _ rfl rfl rfl (setRow_heap _ _ _ _ _ _ AR2) Try.underlying41 rfl (info41 _ _)) rfl ?_
  refine ⟨_, _, by rw [HT.out, HO.out]; rfl, ?_, below_setRow B2 (by omega) _⟩
  rw [HW.out, HBB.out]
  refine ⟨?_, own_setRow RB2 _ _ (fun k hk => by have := N2.out k hk; omega)⟩
  rw [List.length_set]
  exact own_base (own_setRow O2 _ _ (fun k hk => by simp [Value.ownBlock] at hk; omega)) (by omega)
set_option maxRecDepth 100000 in
set_option maxHeartbeats 2000000 in
theorem ref_in2 (base : Nat) (v1 v2 : Value) (W B : List Int) (w : World) (R : Ref w base v1 v2 W B) (hb : base ≤ w.heap.size) (l1 : W.length ≤ 2097152) (l2 : B.length ≤ 1048576) (i : Nat) (a b : Int) (h : i < W.length) (a0 : 0 ≤ a) (a1' : a < 18446744073709551616) : Calls Try.prog 22 #[.agg #[v1, v2], .agg #[.int .u8 2, .int .i64 i, .int .u64 a, .int .u64 b]] w (RefDo base W B 2 i a b w) := by
  have hiw := inW_yes W 2 i h (by decide) (by decide)
  have hbb : inB B 2 i = false := by simp [inB]
  obtain ⟨x, hx⟩ : ∃ x, x = W.getD i 0 := ⟨_, rfl⟩
  have HO := Lib.hid (show okD W B 2 i = true from by simp [okD, hiw])

  have HT := Lib.hid (show tD W B 2 i a = 0 from by rw [tD_yes _ _ _ _ _ h (by decide) (by decide), ← hx]; simp [toldW])
  have HW := Lib.hid (show wD W 2 i a b = W.set i a from by rw [wD_yes _ _ _ _ _ h (by decide) (by decide), ← hx]; simp [nowW])
  have HBB := Lib.hid (show bD B 2 i a = B from by simp [bD])
  have hwx : (W.map (Value.int .u64))[i]? = some (.int .u64 x) := by rw [hx]; simp [List.getD, h]
  have HWX := Lib.hid hwx
  have hset0 : (W.map (Value.int .u64)).set i (.int .u64 x) = W.map (Value.int .u64) := by
    rw [← List.map_set, hx, set_getD]
  have HS0 := Lib.hid hset0
  have HX := Lib.hid hx


  clear hiw hbb hx hset0
  have i0 : (0 : Int) ≤ (i : Int) := by omega
  have i1 : (i : Int) < (W.length : Int) := by omega
  obtain ⟨g1, c1, rfl, hg1, hg1'⟩ := own_open R.words (by omega)
  obtain ⟨a2, c2, rfl⟩ := own_shape R.bytes
  have N2 := Lib.hid (fun k hk => (R.bytes.lt k hk).2)
  obtain ⟨j0, ji, jz0, jz1, jz2⟩ := info_parts Try.info22
  have HL := Lib.hid h
  clear h
  go_enter Try.func22, Try.ntmps22
  go_upto_region 1 with fail
  generalize hV : World.alloc (World.alloc (World.alloc w _) _) _ = V
  have hB : Below w.heap.size w V := hV ▸ al3_b w _ _ _
  have AM : At V w.heap.size #[.slice (some ⟨g1, 0, none⟩) W.length c1, .slice a2 B.length c2] 41 := hV ▸ al3_0 w _ _ _
  have AX : At V (w.heap.size + 1) #[.int .u8 2, .int .i64 i, .int .u64 a, .int .u64 b] 30 := hV ▸ al3_1 w _ _ _
  have AR : At V (w.heap.size + 1 + 1) #[.slice none 0 0, .slice none 0 0] 41 := hV ▸ al3_2 w _ _ _
  have hVs : w.heap.size + 1 + 1 + 1 = V.heap.size := by rw [← hV]; simp
  have R' := R.below hB
  clear hV R
  have m0 := AM.cell 0 rfl
  have m1 := AM.cell 1 rfl
  have x0 := AX.cell 0 rfl
  have x1 := AX.cell 1 rfl
  have x2 := AX.cell 2 rfl
  have x3 := AX.cell 3 rfl
  have cw := (R'.words.cellAt i (by have := HL.out; omega)).trans hwx
  go_upto_region 12 with fail
  clear cw hwx
  clear m0 m1 x0 x1 x2 x3
  have O0 : (V.alloc (.cells #[] 22)).ownsRow V.heap.size 22 1 (.slice (some ⟨V.heap.size, 0, none⟩) 0 0) 0 [] := World.ownsRow_made V #[] 0 (Nat.le_refl _) (Nat.zero_le _) rfl
  have F0 : Frm (V.alloc (.cells #[] 22)) (.slice (some ⟨g1, 0, none⟩) W.length c1) W.length 1 (W.map (Value.int .u64)) := frm_own (R'.words.alloc _) (one_map _ _)
  have m0 := (AM.alloc (.cells #[] 22)).cell 0 rfl
  have m1 := (AM.alloc (.cells #[] 22)).cell 1 rfl
  have s0 : V.heap.size ≤ (V.alloc (.cells #[] 22)).heap.size := by simp
  have hrow : ∀ j, (Value.slice (some ⟨V.heap.size, 0, none⟩) 0 0).ownBlock = some j → V.heap.size ≤ j := by intro j hj; simp [Value.ownBlock] at hj; omega
  have s1 : 0 + W.length ≤ maxLen := by unfold maxLen; omega
  have s2 : (0 + W.length) * 8 ≤ 140737488355328 := by omega
  go_upto_region 13 with (at_builtin; refine wpList_append_frm rfl (.tmp 86) (.tmp 88) 34 rfl V.heap.size 22 j0 (.int .u64 0) 1 8 Try.underlying34 ji jz0 jz1 jz2 rfl (by decide) _ _ _ rfl O0 _ _ _ rfl F0 s1 s2 s0 ?_; intro v' V1 O1 G1)
  have b1 : Below V.heap.size V V1 := ((Below.refl _ V).alloc (Nat.le_refl _) _).grown G1 s0 hrow
  simp only [Nat.zero_add, List.nil_append] at O1
  obtain ⟨g', c', rfl, hg2, hg3⟩ := own_open O1 (by have := HL.out; omega)
  have AM1 := AM.below b1
  have AX1 := AX.below b1
  have AR1 := AR.below b1
  have B1 : Below w.heap.size w V1 := hB.trans (b1.mono hB.size)
  have R1 := R'.below b1
  clear O0 F0 m0 m1 s0 s1 s2 G1 hrow AM AX AR R'
  have m0 := AM1.cell 0 rfl
  have m1 := AM1.cell 1 rfl
  have x0 := AX1.cell 0 rfl
  have x1 := AX1.cell 1 rfl
  have x2 := AX1.cell 2 rfl
  have x3 := AX1.cell 3 rfl
  have cA := O1.cellAt i (by have := HL.out; omega)
  have cB := cA.trans HWX.out
  clear cA
  have fA := O1.frozenAt i

  go_upto_region 26 with fail
  clear cB fA
  clear m0 m1 x0 x1 x2 x3
  have O2 := (O1.stored i (.int .u64 a)).1
  have AM2 := at_setCell AM1 ⟨g', i, none⟩ (.int .u64 a) (by simp; omega)
  have AR2 := at_setCell AR1 ⟨g', i, none⟩ (.int .u64 a) (by simp; omega)
  have B2 := below_setCell B1 ⟨g', i, none⟩ (by simp; omega) (.int .u64 a)
  have RB2 : (V1.setCell ⟨g', i, none⟩ (.int .u64 a)).ownsRow base 5 1 (.slice a2 B.length c2) B.length (B.map (Value.int .u8)) := R1.bytes.kept (O1.stored i (.int .u64 a)).2 (by
    cases hv : (Value.slice a2 B.length c2).ownBlock with
    | none => exact .inl rfl
    | some k => exact .inr fun e => by have := N2.out k hv; injection e with e; omega)
  generalize World.setCell V1 ⟨g', i, none⟩ (.int .u64 a) = V2 at *
  clear O1 AM1 AR1 B1 R1 AX1
  rw [← List.map_set] at O2
  have m0 := AM2.cell 0 rfl
  have m1 := AM2.cell 1 rfl
  go_wp2_with (refine wpList_store_row rfl 41 (.tmp 4) (.tmp 129) rfl (w.heap.size + 1 + 1) #[.slice (some ⟨g', 0, none⟩) W.length c', .slice a2 B.length c2] rfl rfl 41 _ AR2 (info41 _ _) rfl (one41 _ _ _ _ _ _) ?_)
  refine bodyPost_ret (results_row_tmp2 (p := 4) (u := 5) (u' := 6) (ty := 41) rfl _ _ (w.heap.size + 1 + 1) 41 #[.slice (some ⟨g', 0, none⟩) W.length c', .slice a2 B.length c2] (0, 0) _ _ _ rfl rfl rfl (setRow_heap _ _ _ _ _ _ AR2) Try.underlying41 rfl (info41 _ _)) rfl ?_
  refine ⟨_, _, by rw [HT.out, HO.out]; rfl, ?_, below_setRow B2 (by omega) _⟩
  rw [HW.out, HBB.out]
  refine ⟨?_, own_setRow RB2 _ _ (fun k hk => by have := N2.out k hk; omega)⟩
  rw [List.length_set]
  exact own_base (own_setRow O2 _ _ (fun k hk => by simp [Value.ownBlock] at hk; omega)) (by omega)
set_option maxRecDepth 100000 in
set_option maxHeartbeats 2000000 in
theorem ref_in3y (base : Nat) (v1 v2 : Value) (W B : List Int) (w : World) (R : Ref w base v1 v2 W B) (hb : base ≤ w.heap.size) (l1 : W.length ≤ 2097152) (l2 : B.length ≤ 1048576) (i : Nat) (a b : Int) (h : i < W.length) (a0 : 0 ≤ a) (a1' : a < 18446744073709551616) (hxa : W.getD i 0 = a) : Calls Try.prog 22 #[.agg #[v1, v2], .agg #[.int .u8 3, .int .i64 i, .int .u64 a, .int .u64 b]] w (RefDo base W B 3 i a b w) := by
  have hiw := inW_yes W 3 i h (by decide) (by decide)
  have hbb : inB B 3 i = false := by simp [inB]
  obtain ⟨x, hx⟩ : ∃ x, x = W.getD i 0 := ⟨_, rfl⟩
  have HO := Lib.hid (show okD W B 3 i = true from by simp [okD, hiw])
  have hxa2 : x = a := hx.trans hxa
  have HT := Lib.hid (show tD W B 3 i a = 1 from by rw [tD_yes _ _ _ _ _ h (by decide) (by decide), ← hx]; simp [toldW, hxa2])
  have HW := Lib.hid (show wD W 3 i a b = W.set i b from by rw [wD_yes _ _ _ _ _ h (by decide) (by decide), ← hx]; simp [nowW, hxa2])
  have HBB := Lib.hid (show bD B 3 i a = B from by simp [bD])
  have hwx : (W.map (Value.int .u64))[i]? = some (.int .u64 x) := by rw [hx]; simp [List.getD, h]
  have HWX := Lib.hid hwx
  have hset0 : (W.map (Value.int .u64)).set i (.int .u64 x) = W.map (Value.int .u64) := by
    rw [← List.map_set, hx, set_getD]
  have HS0 := Lib.hid hset0
  have HX := Lib.hid hx
  have hab1 : (x == a) = true := by rw [hx]; simpa using hxa
  clear hxa hxa2
  clear hiw hbb hx hset0
  have i0 : (0 : Int) ≤ (i : Int) := by omega
  have i1 : (i : Int) < (W.length : Int) := by omega
  obtain ⟨g1, c1, rfl, hg1, hg1'⟩ := own_open R.words (by omega)
  obtain ⟨a2, c2, rfl⟩ := own_shape R.bytes
  have N2 := Lib.hid (fun k hk => (R.bytes.lt k hk).2)
  obtain ⟨j0, ji, jz0, jz1, jz2⟩ := info_parts Try.info22
  have HL := Lib.hid h
  clear h
  go_enter Try.func22, Try.ntmps22
  go_upto_region 1 with fail
  generalize hV : World.alloc (World.alloc (World.alloc w _) _) _ = V
  have hB : Below w.heap.size w V := hV ▸ al3_b w _ _ _
  have AM : At V w.heap.size #[.slice (some ⟨g1, 0, none⟩) W.length c1, .slice a2 B.length c2] 41 := hV ▸ al3_0 w _ _ _
  have AX : At V (w.heap.size + 1) #[.int .u8 3, .int .i64 i, .int .u64 a, .int .u64 b] 30 := hV ▸ al3_1 w _ _ _
  have AR : At V (w.heap.size + 1 + 1) #[.slice none 0 0, .slice none 0 0] 41 := hV ▸ al3_2 w _ _ _
  have hVs : w.heap.size + 1 + 1 + 1 = V.heap.size := by rw [← hV]; simp
  have R' := R.below hB
  clear hV R
  have m0 := AM.cell 0 rfl
  have m1 := AM.cell 1 rfl
  have x0 := AX.cell 0 rfl
  have x1 := AX.cell 1 rfl
  have x2 := AX.cell 2 rfl
  have x3 := AX.cell 3 rfl
  have cw := (R'.words.cellAt i (by have := HL.out; omega)).trans hwx
  go_upto_region 12 with fail
  clear cw hwx
  clear m0 m1 x0 x1 x2 x3
  have O0 : (V.alloc (.cells #[] 22)).ownsRow V.heap.size 22 1 (.slice (some ⟨V.heap.size, 0, none⟩) 0 0) 0 [] := World.ownsRow_made V #[] 0 (Nat.le_refl _) (Nat.zero_le _) rfl
  have F0 : Frm (V.alloc (.cells #[] 22)) (.slice (some ⟨g1, 0, none⟩) W.length c1) W.length 1 (W.map (Value.int .u64)) := frm_own (R'.words.alloc _) (one_map _ _)
  have m0 := (AM.alloc (.cells #[] 22)).cell 0 rfl
  have m1 := (AM.alloc (.cells #[] 22)).cell 1 rfl
  have s0 : V.heap.size ≤ (V.alloc (.cells #[] 22)).heap.size := by simp
  have hrow : ∀ j, (Value.slice (some ⟨V.heap.size, 0, none⟩) 0 0).ownBlock = some j → V.heap.size ≤ j := by intro j hj; simp [Value.ownBlock] at hj; omega
  have s1 : 0 + W.length ≤ maxLen := by unfold maxLen; omega
  have s2 : (0 + W.length) * 8 ≤ 140737488355328 := by omega
  go_upto_region 13 with (at_builtin; refine wpList_append_frm rfl (.tmp 86) (.tmp 88) 34 rfl V.heap.size 22 j0 (.int .u64 0) 1 8 Try.underlying34 ji jz0 jz1 jz2 rfl (by decide) _ _ _ rfl O0 _ _ _ rfl F0 s1 s2 s0 ?_; intro v' V1 O1 G1)
  have b1 : Below V.heap.size V V1 := ((Below.refl _ V).alloc (Nat.le_refl _) _).grown G1 s0 hrow
  simp only [Nat.zero_add, List.nil_append] at O1
  obtain ⟨g', c', rfl, hg2, hg3⟩ := own_open O1 (by have := HL.out; omega)
  have AM1 := AM.below b1
  have AX1 := AX.below b1
  have AR1 := AR.below b1
  have B1 : Below w.heap.size w V1 := hB.trans (b1.mono hB.size)
  have R1 := R'.below b1
  clear O0 F0 m0 m1 s0 s1 s2 G1 hrow AM AX AR R'
  have m0 := AM1.cell 0 rfl
  have m1 := AM1.cell 1 rfl
  have x0 := AX1.cell 0 rfl
  have x1 := AX1.cell 1 rfl
  have x2 := AX1.cell 2 rfl
  have x3 := AX1.cell 3 rfl
  have cA := O1.cellAt i (by have := HL.out; omega)
  have cB := cA.trans HWX.out
  clear cA
  have fA := O1.frozenAt i

  go_upto_region 26 with fail
  clear cB fA
  clear m0 m1 x0 x1 x2 x3
  have O2 := (O1.stored i (.int .u64 b)).1
  have AM2 := at_setCell AM1 ⟨g', i, none⟩ (.int .u64 b) (by simp; omega)
  have AR2 := at_setCell AR1 ⟨g', i, none⟩ (.int .u64 b) (by simp; omega)
  have B2 := below_setCell B1 ⟨g', i, none⟩ (by simp; omega) (.int .u64 b)
  have RB2 : (V1.setCell ⟨g', i, none⟩ (.int .u64 b)).ownsRow base 5 1 (.slice a2 B.length c2) B.length (B.map (Value.int .u8)) := R1.bytes.kept (O1.stored i (.int .u64 b)).2 (by
    cases hv : (Value.slice a2 B.length c2).ownBlock with
    | none => exact .inl rfl
    | some k => exact .inr fun e => by have := N2.out k hv; injection e with e; omega)
  generalize World.setCell V1 ⟨g', i, none⟩ (.int .u64 b) = V2 at *
  clear O1 AM1 AR1 B1 R1 AX1
  rw [← List.map_set] at O2
  have m0 := AM2.cell 0 rfl
  have m1 := AM2.cell 1 rfl
  go_wp2_with (refine wpList_store_row rfl 41 (.tmp 4) (.tmp 129) rfl (w.heap.size + 1 + 1) #[.slice (some ⟨g', 0, none⟩) W.length c', .slice a2 B.length c2] rfl rfl 41 _ AR2 (info41 _ _) rfl (one41 _ _ _ _ _ _) ?_)
  refine bodyPost_ret (results_row_tmp2 (p := 4) (u := 5) (u' := 6) (ty := 41) rfl _ _ (w.heap.size + 1 + 1) 41 #[.slice (some ⟨g', 0, none⟩) W.length c', .slice a2 B.length c2] (0, 0) _ _ _ rfl rfl rfl (setRow_heap _ _ _ _ _ _ AR2) Try.underlying41 rfl (info41 _ _)) rfl ?_
  refine ⟨_, _, by rw [HT.out, HO.out]; rfl, ?_, below_setRow B2 (by omega) _⟩
  rw [HW.out, HBB.out]
  refine ⟨?_, own_setRow RB2 _ _ (fun k hk => by have := N2.out k hk; omega)⟩
  rw [List.length_set]
  exact own_base (own_setRow O2 _ _ (fun k hk => by simp [Value.ownBlock] at hk; omega)) (by omega)
set_option maxRecDepth 100000 in
set_option maxHeartbeats 2000000 in
theorem ref_in3n (base : Nat) (v1 v2 : Value) (W B : List Int) (w : World) (R : Ref w base v1 v2 W B) (hb : base ≤ w.heap.size) (l1 : W.length ≤ 2097152) (l2 : B.length ≤ 1048576) (i : Nat) (a b : Int) (h : i < W.length) (a0 : 0 ≤ a) (a1' : a < 18446744073709551616) (hxa : W.getD i 0 ≠ a) : Calls Try.prog 22 #[.agg #[v1, v2], .agg #[.int .u8 3, .int .i64 i, .int .u64 a, .int .u64 b]] w (RefDo base W B 3 i a b w) := by
  have hiw := inW_yes W 3 i h (by decide) (by decide)
  have hbb : inB B 3 i = false := by simp [inB]
  obtain ⟨x, hx⟩ : ∃ x, x = W.getD i 0 := ⟨_, rfl⟩
  have HO := Lib.hid (show okD W B 3 i = true from by simp [okD, hiw])
  have hxa2 : ¬ x = a := by rw [hx]; exact hxa
  have HT := Lib.hid (show tD W B 3 i a = 0 from by rw [tD_yes _ _ _ _ _ h (by decide) (by decide), ← hx]; simp [toldW, hxa2])
  have HW := Lib.hid (show wD W 3 i a b = W.set i x from by rw [wD_yes _ _ _ _ _ h (by decide) (by decide), ← hx]; simp [nowW, hxa2])
  have HBB := Lib.hid (show bD B 3 i a = B from by simp [bD])
  have hwx : (W.map (Value.int .u64))[i]? = some (.int .u64 x) := by rw [hx]; simp [List.getD, h]
  have HWX := Lib.hid hwx
  have hset0 : (W.map (Value.int .u64)).set i (.int .u64 x) = W.map (Value.int .u64) := by
    rw [← List.map_set, hx, set_getD]
  have HS0 := Lib.hid hset0
  have HX := Lib.hid hx
  have hab1 : (x == a) = false := by rw [hx]; simpa using hxa
  clear hxa hxa2
  clear hiw hbb hx hset0
  have i0 : (0 : Int) ≤ (i : Int) := by omega
  have i1 : (i : Int) < (W.length : Int) := by omega
  obtain ⟨g1, c1, rfl, hg1, hg1'⟩ := own_open R.words (by omega)
  obtain ⟨a2, c2, rfl⟩ := own_shape R.bytes
  have N2 := Lib.hid (fun k hk => (R.bytes.lt k hk).2)
  obtain ⟨j0, ji, jz0, jz1, jz2⟩ := info_parts Try.info22
  have HL := Lib.hid h
  clear h
  go_enter Try.func22, Try.ntmps22
  go_upto_region 1 with fail
  generalize hV : World.alloc (World.alloc (World.alloc w _) _) _ = V
  have hB : Below w.heap.size w V := hV ▸ al3_b w _ _ _
  have AM : At V w.heap.size #[.slice (some ⟨g1, 0, none⟩) W.length c1, .slice a2 B.length c2] 41 := hV ▸ al3_0 w _ _ _
  have AX : At V (w.heap.size + 1) #[.int .u8 3, .int .i64 i, .int .u64 a, .int .u64 b] 30 := hV ▸ al3_1 w _ _ _
  have AR : At V (w.heap.size + 1 + 1) #[.slice none 0 0, .slice none 0 0] 41 := hV ▸ al3_2 w _ _ _
  have hVs : w.heap.size + 1 + 1 + 1 = V.heap.size := by rw [← hV]; simp
  have R' := R.below hB
  clear hV R
  have m0 := AM.cell 0 rfl
  have m1 := AM.cell 1 rfl
  have x0 := AX.cell 0 rfl
  have x1 := AX.cell 1 rfl
  have x2 := AX.cell 2 rfl
  have x3 := AX.cell 3 rfl
  have cw := (R'.words.cellAt i (by have := HL.out; omega)).trans hwx
  go_upto_region 12 with fail
  clear cw hwx
  clear m0 m1 x0 x1 x2 x3
  have O0 : (V.alloc (.cells #[] 22)).ownsRow V.heap.size 22 1 (.slice (some ⟨V.heap.size, 0, none⟩) 0 0) 0 [] := World.ownsRow_made V #[] 0 (Nat.le_refl _) (Nat.zero_le _) rfl
  have F0 : Frm (V.alloc (.cells #[] 22)) (.slice (some ⟨g1, 0, none⟩) W.length c1) W.length 1 (W.map (Value.int .u64)) := frm_own (R'.words.alloc _) (one_map _ _)
  have m0 := (AM.alloc (.cells #[] 22)).cell 0 rfl
  have m1 := (AM.alloc (.cells #[] 22)).cell 1 rfl
  have s0 : V.heap.size ≤ (V.alloc (.cells #[] 22)).heap.size := by simp
  have hrow : ∀ j, (Value.slice (some ⟨V.heap.size, 0, none⟩) 0 0).ownBlock = some j → V.heap.size ≤ j := by intro j hj; simp [Value.ownBlock] at hj; omega
  have s1 : 0 + W.length ≤ maxLen := by unfold maxLen; omega
  have s2 : (0 + W.length) * 8 ≤ 140737488355328 := by omega
  go_upto_region 13 with (at_builtin; refine wpList_append_frm rfl (.tmp 86) (.tmp 88) 34 rfl V.heap.size 22 j0 (.int .u64 0) 1 8 Try.underlying34 ji jz0 jz1 jz2 rfl (by decide) _ _ _ rfl O0 _ _ _ rfl F0 s1 s2 s0 ?_; intro v' V1 O1 G1)
  have b1 : Below V.heap.size V V1 := ((Below.refl _ V).alloc (Nat.le_refl _) _).grown G1 s0 hrow
  simp only [Nat.zero_add, List.nil_append] at O1
  obtain ⟨g', c', rfl, hg2, hg3⟩ := own_open O1 (by have := HL.out; omega)
  have AM1 := AM.below b1
  have AX1 := AX.below b1
  have AR1 := AR.below b1
  have B1 : Below w.heap.size w V1 := hB.trans (b1.mono hB.size)
  have R1 := R'.below b1
  clear O0 F0 m0 m1 s0 s1 s2 G1 hrow AM AX AR R'
  have m0 := AM1.cell 0 rfl
  have m1 := AM1.cell 1 rfl
  have x0 := AX1.cell 0 rfl
  have x1 := AX1.cell 1 rfl
  have x2 := AX1.cell 2 rfl
  have x3 := AX1.cell 3 rfl
  have cA := O1.cellAt i (by have := HL.out; omega)
  have cB := cA.trans HWX.out
  clear cA
  have fA := O1.frozenAt i

  go_upto_region 26 with fail
  clear cB fA
  clear m0 m1 x0 x1 x2 x3
  have O2 := O1
  rw [← HS0.out] at O2
  have AM2 := AM1
  have AR2 := AR1
  have B2 := B1
  have RB2 := R1.bytes
  clear O1 AM1 AR1 B1 R1 AX1
  rw [← List.map_set] at O2
  have m0 := AM2.cell 0 rfl
  have m1 := AM2.cell 1 rfl
  go_wp2_with (refine wpList_store_row rfl 41 (.tmp 4) (.tmp 129) rfl (w.heap.size + 1 + 1) #[.slice (some ⟨g', 0, none⟩) W.length c', .slice a2 B.length c2] rfl rfl 41 _ AR2 (info41 _ _) rfl (one41 _ _ _ _ _ _) ?_)
  refine bodyPost_ret (results_row_tmp2 (p := 4) (u := 5) (u' := 6) (ty := 41) rfl _ _ (w.heap.size + 1 + 1) 41 #[.slice (some ⟨g', 0, none⟩) W.length c', .slice a2 B.length c2] (0, 0) _ _ _ rfl rfl rfl (setRow_heap _ _ _ _ _ _ AR2) Try.underlying41 rfl (info41 _ _)) rfl ?_
  refine ⟨_, _, by rw [HT.out, HO.out]; rfl, ?_, below_setRow B2 (by omega) _⟩
  rw [HW.out, HBB.out]
  refine ⟨?_, own_setRow RB2 _ _ (fun k hk => by have := N2.out k hk; omega)⟩
  rw [List.length_set]
  exact own_base (own_setRow O2 _ _ (fun k hk => by simp [Value.ownBlock] at hk; omega)) (by omega)
set_option maxRecDepth 100000 in
set_option maxHeartbeats 2000000 in
theorem ref_in4 (base : Nat) (v1 v2 : Value) (W B : List Int) (w : World) (R : Ref w base v1 v2 W B) (hb : base ≤ w.heap.size) (l1 : W.length ≤ 2097152) (l2 : B.length ≤ 1048576) (i : Nat) (a b : Int) (h : i < W.length) (a0 : 0 ≤ a) (a1' : a < 18446744073709551616) : Calls Try.prog 22 #[.agg #[v1, v2], .agg #[.int .u8 4, .int .i64 i, .int .u64 a, .int .u64 b]] w (RefDo base W B 4 i a b w) := by
  have hiw := inW_yes W 4 i h (by decide) (by decide)
  have hbb : inB B 4 i = false := by simp [inB]
  obtain ⟨x, hx⟩ : ∃ x, x = W.getD i 0 := ⟨_, rfl⟩
  have HO := Lib.hid (show okD W B 4 i = true from by simp [okD, hiw])

  have HT := Lib.hid (show tD W B 4 i a = x from by rw [tD_yes _ _ _ _ _ h (by decide) (by decide), ← hx]; simp [toldW])
  have HW := Lib.hid (show wD W 4 i a b = W.set i ((x + a) % 18446744073709551616) from by rw [wD_yes _ _ _ _ _ h (by decide) (by decide), ← hx]; simp [nowW])
  have HBB := Lib.hid (show bD B 4 i a = B from by simp [bD])
  have hwx : (W.map (Value.int .u64))[i]? = some (.int .u64 x) := by rw [hx]; simp [List.getD, h]
  have HWX := Lib.hid hwx
  have hset0 : (W.map (Value.int .u64)).set i (.int .u64 x) = W.map (Value.int .u64) := by
    rw [← List.map_set, hx, set_getD]
  have HS0 := Lib.hid hset0
  have HX := Lib.hid hx


  clear hiw hbb hx hset0
  have i0 : (0 : Int) ≤ (i : Int) := by omega
  have i1 : (i : Int) < (W.length : Int) := by omega
  obtain ⟨g1, c1, rfl, hg1, hg1'⟩ := own_open R.words (by omega)
  obtain ⟨a2, c2, rfl⟩ := own_shape R.bytes
  have N2 := Lib.hid (fun k hk => (R.bytes.lt k hk).2)
  obtain ⟨j0, ji, jz0, jz1, jz2⟩ := info_parts Try.info22
  have HL := Lib.hid h
  clear h
  go_enter Try.func22, Try.ntmps22
  go_upto_region 1 with fail
  generalize hV : World.alloc (World.alloc (World.alloc w _) _) _ = V
  have hB : Below w.heap.size w V := hV ▸ al3_b w _ _ _
  have AM : At V w.heap.size #[.slice (some ⟨g1, 0, none⟩) W.length c1, .slice a2 B.length c2] 41 := hV ▸ al3_0 w _ _ _
  have AX : At V (w.heap.size + 1) #[.int .u8 4, .int .i64 i, .int .u64 a, .int .u64 b] 30 := hV ▸ al3_1 w _ _ _
  have AR : At V (w.heap.size + 1 + 1) #[.slice none 0 0, .slice none 0 0] 41 := hV ▸ al3_2 w _ _ _
  have hVs : w.heap.size + 1 + 1 + 1 = V.heap.size := by rw [← hV]; simp
  have R' := R.below hB
  clear hV R
  have m0 := AM.cell 0 rfl
  have m1 := AM.cell 1 rfl
  have x0 := AX.cell 0 rfl
  have x1 := AX.cell 1 rfl
  have x2 := AX.cell 2 rfl
  have x3 := AX.cell 3 rfl
  have cw := (R'.words.cellAt i (by have := HL.out; omega)).trans hwx
  go_upto_region 12 with fail
  clear cw hwx
  clear m0 m1 x0 x1 x2 x3
  have O0 : (V.alloc (.cells #[] 22)).ownsRow V.heap.size 22 1 (.slice (some ⟨V.heap.size, 0, none⟩) 0 0) 0 [] := World.ownsRow_made V #[] 0 (Nat.le_refl _) (Nat.zero_le _) rfl
  have F0 : Frm (V.alloc (.cells #[] 22)) (.slice (some ⟨g1, 0, none⟩) W.length c1) W.length 1 (W.map (Value.int .u64)) := frm_own (R'.words.alloc _) (one_map _ _)
  have m0 := (AM.alloc (.cells #[] 22)).cell 0 rfl
  have m1 := (AM.alloc (.cells #[] 22)).cell 1 rfl
  have s0 : V.heap.size ≤ (V.alloc (.cells #[] 22)).heap.size := by simp
  have hrow : ∀ j, (Value.slice (some ⟨V.heap.size, 0, none⟩) 0 0).ownBlock = some j → V.heap.size ≤ j := by intro j hj; simp [Value.ownBlock] at hj; omega
  have s1 : 0 + W.length ≤ maxLen := by unfold maxLen; omega
  have s2 : (0 + W.length) * 8 ≤ 140737488355328 := by omega
  go_upto_region 13 with (at_builtin; refine wpList_append_frm rfl (.tmp 86) (.tmp 88) 34 rfl V.heap.size 22 j0 (.int .u64 0) 1 8 Try.underlying34 ji jz0 jz1 jz2 rfl (by decide) _ _ _ rfl O0 _ _ _ rfl F0 s1 s2 s0 ?_; intro v' V1 O1 G1)
  have b1 : Below V.heap.size V V1 := ((Below.refl _ V).alloc (Nat.le_refl _) _).grown G1 s0 hrow
  simp only [Nat.zero_add, List.nil_append] at O1
  obtain ⟨g', c', rfl, hg2, hg3⟩ := own_open O1 (by have := HL.out; omega)
  have AM1 := AM.below b1
  have AX1 := AX.below b1
  have AR1 := AR.below b1
  have B1 : Below w.heap.size w V1 := hB.trans (b1.mono hB.size)
  have R1 := R'.below b1
  clear O0 F0 m0 m1 s0 s1 s2 G1 hrow AM AX AR R'
  have m0 := AM1.cell 0 rfl
  have m1 := AM1.cell 1 rfl
  have x0 := AX1.cell 0 rfl
  have x1 := AX1.cell 1 rfl
  have x2 := AX1.cell 2 rfl
  have x3 := AX1.cell 3 rfl
  have cA := O1.cellAt i (by have := HL.out; omega)
  have cB := cA.trans HWX.out
  clear cA
  have fA := O1.frozenAt i
  have hA : IntKind.u64.wrap (x + a) = (x + a) % 18446744073709551616 := rfl
  go_upto_region 26 with fail
  clear cB fA
  clear m0 m1 x0 x1 x2 x3
  have O2 := (O1.stored i (.int .u64 ((x + a) % 18446744073709551616))).1
  have AM2 := at_setCell AM1 ⟨g', i, none⟩ (.int .u64 ((x + a) % 18446744073709551616)) (by simp; omega)
  have AR2 := at_setCell AR1 ⟨g', i, none⟩ (.int .u64 ((x + a) % 18446744073709551616)) (by simp; omega)
  have B2 := below_setCell B1 ⟨g', i, none⟩ (by simp; omega) (.int .u64 ((x + a) % 18446744073709551616))
  have RB2 : (V1.setCell ⟨g', i, none⟩ (.int .u64 ((x + a) % 18446744073709551616))).ownsRow base 5 1 (.slice a2 B.length c2) B.length (B.map (Value.int .u8)) := R1.bytes.kept (O1.stored i (.int .u64 ((x + a) % 18446744073709551616))).2 (by
    cases hv : (Value.slice a2 B.length c2).ownBlock with
    | none => exact .inl rfl
    | some k => exact .inr fun e => by have := N2.out k hv; injection e with e; omega)
  generalize World.setCell V1 ⟨g', i, none⟩ (.int .u64 ((x + a) % 18446744073709551616)) = V2 at *
  clear O1 AM1 AR1 B1 R1 AX1
  rw [← List.map_set] at O2
  have m0 := AM2.cell 0 rfl
  have m1 := AM2.cell 1 rfl
  go_wp2_with (refine wpList_store_row rfl 41 (.tmp 4) (.tmp 129) rfl (w.heap.size + 1 + 1) #[.slice (some ⟨g', 0, none⟩) W.length c', .slice a2 B.length c2] rfl rfl 41 _ AR2 (info41 _ _) rfl (one41 _ _ _ _ _ _) ?_)
  refine bodyPost_ret (results_row_tmp2 (p := 4) (u := 5) (u' := 6) (ty := 41) rfl _ _ (w.heap.size + 1 + 1) 41 #[.slice (some ⟨g', 0, none⟩) W.length c', .slice a2 B.length c2] (0, 0) _ _ _ rfl rfl rfl (setRow_heap _ _ _ _ _ _ AR2) Try.underlying41 rfl (info41 _ _)) rfl ?_
  refine ⟨_, _, by rw [HT.out, HO.out]; rfl, ?_, below_setRow B2 (by omega) _⟩
  rw [HW.out, HBB.out]
  refine ⟨?_, own_setRow RB2 _ _ (fun k hk => by have := N2.out k hk; omega)⟩
  rw [List.length_set]
  exact own_base (own_setRow O2 _ _ (fun k hk => by simp [Value.ownBlock] at hk; omega)) (by omega)
end Go.Proofs.Ytmdagppeeejikaa
