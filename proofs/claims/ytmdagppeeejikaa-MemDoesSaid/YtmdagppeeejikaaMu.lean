/- The reference's Do (quilletref03), bytes, and whole. Condition: the numbers fit their kinds. -/
import Derived.Test.YtmdagppeeejikaaMs
import Derived.Test.YtmdagppeeejikaaMt
import Derived.Deep.RegionHeld3
namespace Go.Proofs.Ytmdagppeeejikaa
open Go.RowKit
set_option linter.unusedVariables false

theorem set_two {w : World} {R : Nat} {p q : Value} {t : TypeId} (h : At w R #[p, q] t) (a b : Value) : ((w.setCell ⟨R, 0, none⟩ a).setCell ⟨R, 1, none⟩ b).heap[R]? = some (.cells #[a, b] t (0, 0)) :=
  heap_setCell_same _ R 1 #[a, q] t b (heap_setCell_same w R 0 #[p, q] t a h)
theorem own_set2 {w : World} {base e size n : Nat} {v : Value} {xs : List Value} (h : w.ownsRow base e size v n xs) (R : Nat) (a b : Value) (hne : ∀ k, v.ownBlock = some k → k ≠ R) : ((w.setCell ⟨R, 0, none⟩ a).setCell ⟨R, 1, none⟩ b).drew.ownsRow base e size v n xs := by
  obtain ⟨hl, h⟩ := h
  refine ⟨hl, ?_⟩
  rcases h with h | ⟨g, cap, cur, hv, hg, hh, r⟩
  · exact .inl h
  · refine .inr ⟨g, cap, cur, hv, hg, ?_, r⟩
    have hn : g ≠ R := hne g (by rw [hv]; rfl)
    show ((w.setCell ⟨R, 0, none⟩ a).setCell ⟨R, 1, none⟩ b).heap[g]? = _
    rw [heap_setCell_other _ _ _ _ hn, heap_setCell_other _ _ _ _ hn]
    exact hh
set_option maxRecDepth 100000 in
set_option maxHeartbeats 2000000 in
theorem ref_in5 (base : Nat) (v1 v2 : Value) (W B : List Int) (w : World) (R : Ref w base v1 v2 W B) (hb : base ≤ w.heap.size) (l1 : W.length ≤ 2097152) (l2 : B.length ≤ 1048576) (i : Nat) (a b : Int) (h : i < B.length) (bw : ∀ x ∈ B, 0 ≤ x ∧ x < 256) (a0 : 0 ≤ a) (a1' : a < 18446744073709551616) : Calls Try.prog 22 #[.agg #[v1, v2], .agg #[.int .u8 5, .int .i64 i, .int .u64 a, .int .u64 b]] w (RefDo base W B 5 i a b w) := by
  have hib : inB B 5 i = true := by simp [inB]; omega
  have hww : inW W 5 i = false := by simp [inW]
  obtain ⟨x, hx⟩ : ∃ x, x = B.getD i 0 := ⟨_, rfl⟩
  have HO := Lib.hid (show okD W B 5 i = true from by simp [okD, hib])
  have HT := Lib.hid (show tD W B 5 i a = x from by simp [tD, hww, hib, hx])
  have HW := Lib.hid (show wD W 5 i a b = W from by simp [wD, hww])
  have HBB := Lib.hid (show bD B 5 i a = B from by simp [bD])
  have hwx : (B.map (Value.int .u8))[i]? = some (.int .u8 x) := by rw [hx]; simp [List.getD, h]
  have HWX := Lib.hid hwx
  obtain ⟨y0, y1⟩ := getD_wf bw i h
  rw [← hx] at y0 y1
  clear hib hww hx bw
  have i0 : (0 : Int) ≤ (i : Int) := by omega
  have i1 : (i : Int) < (B.length : Int) := by omega
  obtain ⟨a1, c1, rfl⟩ := own_shape R.words
  obtain ⟨g2, c2, rfl, hg1, hg1'⟩ := own_open R.bytes (by omega)
  have N1 := Lib.hid (fun k hk => (R.words.lt k hk).2)
  obtain ⟨j0, ji, jz0, jz1, jz2⟩ := info_parts Try.info5
  have HL := Lib.hid h
  clear h
  go_enter Try.func22, Try.ntmps22
  go_upto_region 1 with fail
  generalize hV : World.alloc (World.alloc (World.alloc w _) _) _ = V
  have hB : Below w.heap.size w V := hV ▸ al3_b w _ _ _
  have AM : At V w.heap.size #[.slice a1 W.length c1, .slice (some ⟨g2, 0, none⟩) B.length c2] 41 := hV ▸ al3_0 w _ _ _
  have AX : At V (w.heap.size + 1) #[.int .u8 5, .int .i64 i, .int .u64 a, .int .u64 b] 30 := hV ▸ al3_1 w _ _ _
  have AR : At V (w.heap.size + 1 + 1) #[.slice none 0 0, .slice none 0 0] 41 := hV ▸ al3_2 w _ _ _
  have hVs : w.heap.size + 1 + 1 + 1 = V.heap.size := by rw [← hV]; simp
  have R' := R.below hB
  clear hV R
  have m0 := AM.cell 0 rfl
  have m1 := AM.cell 1 rfl
  have x0 := AX.cell 0 rfl
  have x1 := AX.cell 1 rfl
  have x2 := AX.cell 2 rfl
  have x3 := AX.cell 3 rfl
  have cw := (R'.bytes.cellAt i (by have := HL.out; omega)).trans hwx
  go_upto_region 5 with fail
  have r0 := AR.cell 0 rfl
  have r1 := AR.cell 1 rfl
  have f0 := frozen_of_row _ _ 0 _ _ AR
  have f1 := frozen_of_row _ _ 1 _ _ AR
  clear HWX hwx
  have hux : IntKind.u64.wrap x = x := by show x % 18446744073709551616 = x; omega
  have hne1 : w.heap.size + 1 + 1 ≠ g2 := by omega
  have hne2 : w.heap.size + 1 + 1 ≠ w.heap.size := by omega
  have hne3 : w.heap.size ≠ w.heap.size + 1 + 1 := by omega
  have hne4 : g2 ≠ w.heap.size + 1 + 1 := by omega
  go_region_held3 (fun w' => w'.cell? ⟨w.heap.size, 0, none⟩ = some (.slice a1 W.length c1) ∧ w'.cell? ⟨w.heap.size, 1, none⟩ = some (.slice (some ⟨g2, 0, none⟩) B.length c2) ∧ w'.cell? ⟨w.heap.size + 1, 1, none⟩ = some (.int .i64 i) ∧ w'.cell? ⟨g2, i, none⟩ = some (.int .u8 x)) (go_keep) (fail)
  all_goals go_wp2_with fail
  all_goals
    refine bodyPost_ret (results_row_tmp2 (p := 4) (u := 5) (u' := 6) (ty := 41) rfl _ _ (w.heap.size + 1 + 1) 41 #[.slice a1 W.length c1, .slice (some ⟨g2, 0, none⟩) B.length c2] (0, 0) _ _ _ rfl rfl rfl (set_two AR _ _) Try.underlying41 rfl (info41 _ _)) rfl ?_
    refine ⟨_, _, by rw [HT.out, HO.out]; rfl, ?_, ((hB.setCell (by simp; omega) _).setCell (by simp; omega) _).drew⟩
    rw [HW.out, HBB.out]
    exact ⟨(own_set2 R'.words (w.heap.size + 1 + 1) _ _ (fun k hk => by have := N1.out k hk; omega)), (own_set2 R'.bytes (w.heap.size + 1 + 1) _ _ (fun k hk => by simp [Value.ownBlock] at hk; omega))⟩
set_option maxRecDepth 100000 in
set_option maxHeartbeats 2000000 in
theorem ref_in6 (base : Nat) (v1 v2 : Value) (W B : List Int) (w : World) (R : Ref w base v1 v2 W B) (hb : base ≤ w.heap.size) (l1 : W.length ≤ 2097152) (l2 : B.length ≤ 1048576) (i : Nat) (a b : Int) (h : i < B.length) (bw : ∀ x ∈ B, 0 ≤ x ∧ x < 256) (a0 : 0 ≤ a) (a1' : a < 18446744073709551616) : Calls Try.prog 22 #[.agg #[v1, v2], .agg #[.int .u8 6, .int .i64 i, .int .u64 a, .int .u64 b]] w (RefDo base W B 6 i a b w) := by
  have hib : inB B 6 i = true := by simp [inB]; omega
  have hww : inW W 6 i = false := by simp [inW]
  obtain ⟨x, hx⟩ : ∃ x, x = B.getD i 0 := ⟨_, rfl⟩
  have HO := Lib.hid (show okD W B 6 i = true from by simp [okD, hib])
  have HT := Lib.hid (show tD W B 6 i a = 0 from by simp [tD, hww])
  have HW := Lib.hid (show wD W 6 i a b = W from by simp [wD, hww])
  have HBB := Lib.hid (show bD B 6 i a = B.set i (a % 256) from by simp [bD, hib])
  have hwx : (B.map (Value.int .u8))[i]? = some (.int .u8 x) := by rw [hx]; simp [List.getD, h]
  have HWX := Lib.hid hwx
  obtain ⟨y0, y1⟩ := getD_wf bw i h
  rw [← hx] at y0 y1
  clear hib hww hx bw
  have i0 : (0 : Int) ≤ (i : Int) := by omega
  have i1 : (i : Int) < (B.length : Int) := by omega
  obtain ⟨a1, c1, rfl⟩ := own_shape R.words
  obtain ⟨g2, c2, rfl, hg1, hg1'⟩ := own_open R.bytes (by omega)
  have N1 := Lib.hid (fun k hk => (R.words.lt k hk).2)
  obtain ⟨j0, ji, jz0, jz1, jz2⟩ := info_parts Try.info5
  have HL := Lib.hid h
  clear h
  go_enter Try.func22, Try.ntmps22
  go_upto_region 1 with fail
  generalize hV : World.alloc (World.alloc (World.alloc w _) _) _ = V
  have hB : Below w.heap.size w V := hV ▸ al3_b w _ _ _
  have AM : At V w.heap.size #[.slice a1 W.length c1, .slice (some ⟨g2, 0, none⟩) B.length c2] 41 := hV ▸ al3_0 w _ _ _
  have AX : At V (w.heap.size + 1) #[.int .u8 6, .int .i64 i, .int .u64 a, .int .u64 b] 30 := hV ▸ al3_1 w _ _ _
  have AR : At V (w.heap.size + 1 + 1) #[.slice none 0 0, .slice none 0 0] 41 := hV ▸ al3_2 w _ _ _
  have hVs : w.heap.size + 1 + 1 + 1 = V.heap.size := by rw [← hV]; simp
  have R' := R.below hB
  clear hV R
  have m0 := AM.cell 0 rfl
  have m1 := AM.cell 1 rfl
  have x0 := AX.cell 0 rfl
  have x1 := AX.cell 1 rfl
  have x2 := AX.cell 2 rfl
  have x3 := AX.cell 3 rfl
  go_upto_region 6 with fail
  clear m0 m1 x0 x1 x2 x3
  have O0 : (V.alloc (.cells #[] 5)).ownsRow V.heap.size 5 1 (.slice (some ⟨V.heap.size, 0, none⟩) 0 0) 0 [] := World.ownsRow_made V #[] 0 (Nat.le_refl _) (Nat.zero_le _) rfl
  have F0 : Frm (V.alloc (.cells #[] 5)) (.slice (some ⟨g2, 0, none⟩) B.length c2) B.length 1 (B.map (Value.int .u8)) := frm_own (R'.bytes.alloc _) (one_map _ _)
  have m0 := (AM.alloc (.cells #[] 5)).cell 0 rfl
  have m1 := (AM.alloc (.cells #[] 5)).cell 1 rfl
  have s0 : V.heap.size ≤ (V.alloc (.cells #[] 5)).heap.size := by simp
  have hrow : ∀ j, (Value.slice (some ⟨V.heap.size, 0, none⟩) 0 0).ownBlock = some j → V.heap.size ≤ j := by intro j hj; simp [Value.ownBlock] at hj; omega
  have s1 : 0 + B.length ≤ maxLen := by unfold maxLen; omega
  have s2 : (0 + B.length) * 1 ≤ 140737488355328 := by omega
  go_upto_region 7 with (at_builtin; refine wpList_append_frm rfl (.tmp 42) (.tmp 44) 36 rfl V.heap.size 5 j0 (.int .u8 0) 1 1 Try.underlying36 ji jz0 jz1 jz2 rfl (by decide) _ _ _ rfl O0 _ _ _ rfl F0 s1 s2 s0 ?_; intro v' V1 O1 G1)
  have b1 : Below V.heap.size V V1 := ((Below.refl _ V).alloc (Nat.le_refl _) _).grown G1 s0 hrow
  simp only [Nat.zero_add, List.nil_append] at O1
  obtain ⟨g', c', rfl, hg2, hg3⟩ := own_open O1 (by have := HL.out; omega)
  have AM1 := AM.below b1
  have AX1 := AX.below b1
  have AR1 := AR.below b1
  have B1 : Below w.heap.size w V1 := hB.trans (b1.mono hB.size)
  have R1 := R'.below b1
  clear O0 F0 m0 m1 s0 s1 s2 G1 hrow AM AX AR R'
  have m0 := AM1.cell 0 rfl
  have m1 := AM1.cell 1 rfl
  have x0 := AX1.cell 0 rfl
  have x1 := AX1.cell 1 rfl
  have x2 := AX1.cell 2 rfl
  have x3 := AX1.cell 3 rfl
  have cA := O1.cellAt i (by have := HL.out; omega)
  have cB := cA.trans HWX.out
  clear cA
  have fA := O1.frozenAt i
  have am0 : 0 ≤ a % 256 := by omega
  have am1 : a % 256 < 256 := by omega
  go_upto_region 8 with fail
  clear cB fA am0 am1
  clear m0 m1 x0 x1 x2 x3
  have O2 := (O1.stored i (.int .u8 (a % 256))).1
  have AM2 := at_setCell AM1 ⟨g', i, none⟩ (.int .u8 (a % 256)) (by simp; omega)
  have AR2 := at_setCell AR1 ⟨g', i, none⟩ (.int .u8 (a % 256)) (by simp; omega)
  have B2 := below_setCell B1 ⟨g', i, none⟩ (by simp; omega) (.int .u8 (a % 256))
  have RB2 : (V1.setCell ⟨g', i, none⟩ (.int .u8 (a % 256))).ownsRow base 22 1 (.slice a1 W.length c1) W.length (W.map (Value.int .u64)) := R1.words.kept (O1.stored i (.int .u8 (a % 256))).2 (by
    cases hv : (Value.slice a1 W.length c1).ownBlock with
    | none => exact .inl rfl
    | some k => exact .inr fun e => by have := N1.out k hv; injection e with e; omega)
  generalize World.setCell V1 ⟨g', i, none⟩ (.int .u8 (a % 256)) = V2 at *
  clear O1 AM1 AR1 B1 R1 AX1
  rw [← List.map_set] at O2
  have m0 := AM2.cell 0 rfl
  have m1 := AM2.cell 1 rfl
  go_wp2_with (refine wpList_store_row rfl 41 (.tmp 4) (.tmp 57) rfl (w.heap.size + 1 + 1) #[.slice a1 W.length c1, .slice (some ⟨g', 0, none⟩) B.length c'] rfl rfl 41 _ AR2 (info41 _ _) rfl (one41 _ _ _ _ _ _) ?_)
  refine bodyPost_ret (results_row_tmp2 (p := 4) (u := 5) (u' := 6) (ty := 41) rfl _ _ (w.heap.size + 1 + 1) 41 #[.slice a1 W.length c1, .slice (some ⟨g', 0, none⟩) B.length c'] (0, 0) _ _ _ rfl rfl rfl (setRow_heap _ _ _ _ _ _ AR2) Try.underlying41 rfl (info41 _ _)) rfl ?_
  refine ⟨_, _, by rw [HT.out, HO.out]; rfl, ?_, below_setRow B2 (by omega) _⟩
  rw [HW.out, HBB.out]
  refine ⟨own_setRow RB2 _ _ (fun k hk => by have := N1.out k hk; omega), ?_⟩
  rw [List.length_set]
  exact own_base (own_setRow O2 _ _ (fun k hk => by simp [Value.ownBlock] at hk; omega)) (by omega)

theorem ref_do (base : Nat) (v1 v2 : Value) (W B : List Int) (w : World) (R : Ref w base v1 v2 W B) (hb : base ≤ w.heap.size) (l1 : W.length ≤ 2097152) (l2 : B.length ≤ 1048576) (k t a b : Int) (bw : ∀ x ∈ B, 0 ≤ x ∧ x < 256) (k0 : 0 ≤ k) (k1 : k ≤ 255) (a0 : 0 ≤ a) (a1 : a < 18446744073709551616) : Calls Try.prog 22 #[.agg #[v1, v2], .agg #[.int .u8 k, .int .i64 t, .int .u64 a, .int .u64 b]] w (RefDo base W B k t a b w) := by
  by_cases hk : k < 1 ∨ 6 < k
  · exact ref_none base v1 v2 W B w R hb l1 l2 k t a b k0 k1 hk
  by_cases h4 : k ≤ 4
  · by_cases ht : t < 0 ∨ (W.length : Int) ≤ t
    · rcases (show k = 1 ∨ k = 2 ∨ k = 3 ∨ k = 4 by omega) with rfl | rfl | rfl | rfl
      · exact ref_out1 base v1 v2 W B w R hb l1 l2 t a b ht
      · exact ref_out2 base v1 v2 W B w R hb l1 l2 t a b ht
      · exact ref_out3 base v1 v2 W B w R hb l1 l2 t a b ht
      · exact ref_out4 base v1 v2 W B w R hb l1 l2 t a b ht
    · obtain ⟨i, rfl⟩ : ∃ i : Nat, t = i := ⟨t.toNat, by omega⟩
      have hi : i < W.length := by omega
      rcases (show k = 1 ∨ k = 2 ∨ k = 3 ∨ k = 4 by omega) with rfl | rfl | rfl | rfl
      · exact ref_in1 base v1 v2 W B w R hb l1 l2 i a b hi a0 a1
      · exact ref_in2 base v1 v2 W B w R hb l1 l2 i a b hi a0 a1
      · by_cases hx : W.getD i 0 = a
        · exact ref_in3y base v1 v2 W B w R hb l1 l2 i a b hi a0 a1 hx
        · exact ref_in3n base v1 v2 W B w R hb l1 l2 i a b hi a0 a1 hx
      · exact ref_in4 base v1 v2 W B w R hb l1 l2 i a b hi a0 a1
  · by_cases ht : t < 0 ∨ (B.length : Int) ≤ t
    · rcases (show k = 5 ∨ k = 6 by omega) with rfl | rfl
      · exact ref_out5 base v1 v2 W B w R hb l1 l2 t a b ht
      · exact ref_out6 base v1 v2 W B w R hb l1 l2 t a b ht
    · obtain ⟨i, rfl⟩ : ∃ i : Nat, t = i := ⟨t.toNat, by omega⟩
      have hi : i < B.length := by omega
      rcases (show k = 5 ∨ k = 6 by omega) with rfl | rfl
      · exact ref_in5 base v1 v2 W B w R hb l1 l2 i a b hi bw a0 a1
      · exact ref_in6 base v1 v2 W B w R hb l1 l2 i a b hi bw a0 a1
end Go.Proofs.Ytmdagppeeejikaa
