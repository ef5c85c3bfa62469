/- Word, Byte, tells, Copy and Same of memories with spare room; of nil. Condition: the numbers fit their kinds. -/
import Derived.Test.YtmdagppeeejikaaQa
import Derived.Lib.SliceRun
import Derived.Deep.RegionWith
namespace Go.Proofs.Ytmdagppeeejikaa
open Go.RowKit
set_option linter.unusedVariables false
set_option linter.unusedSimpArgs false

theorem g_word {p base : Nat} {v1 v2 : Value} {W B : List Int} (t : Int) (w : World) (M : GM w p base v1 v2 W B) :
    Calls Try.prog 16 #[.pointer (some ⟨p, 0, none⟩), .int .i64 t] w fun e w' => e = .returned (.int .u64 (at0 W t)) ∧ GDo p base v1 v2 W B w w' := by
  have C := g_do 1 t 0 0 w M (by decide) (by decide) (by decide) (by decide) (by decide) (by decide)
  rw [wD_load, bD_get _ _ _ _ (by decide), tD_load] at C
  have HC := Lib.hid C
  clear C M
  go_enter Try.func16, Try.ntmps16
  go_wp2_with fail
  refine HC.out.mono ?_
  rintro e w1 ⟨rfl, D⟩
  have HM := Lib.hid D
  clear D
  go_wp2_with fail
  go_ret
  exact ⟨rfl, HM.out⟩
theorem g_byte {p base : Nat} {v1 v2 : Value} {W B : List Int} (t : Int) (w : World) (M : GM w p base v1 v2 W B) :
    Calls Try.prog 23 #[.pointer (some ⟨p, 0, none⟩), .int .i64 t] w fun e w' => e = .returned (.int .u8 (at0 B t)) ∧ GDo p base v1 v2 W B w w' := by
  have C := g_do 5 t 0 0 w M (by decide) (by decide) (by decide) (by decide) (by decide) (by decide)
  rw [wD_byte _ _ _ _ _ (by decide), bD_get _ _ _ _ (by decide), tD_get] at C
  obtain ⟨y0, y1⟩ := at0_wf (by decide) M.bwf t
  have HC := Lib.hid C
  clear C M
  generalize at0 B t = y at *
  go_enter Try.func23, Try.ntmps23
  go_wp2_with fail
  refine HC.out.mono ?_
  rintro e w1 ⟨rfl, D⟩
  have HM := Lib.hid D
  clear D
  go_wp2_with fail
  go_ret
  exact ⟨rfl, HM.out⟩
set_option maxHeartbeats 1000000 in
theorem g_tells {p base : Nat} {v1 v2 : Value} {W B : List Int} (k t a b x : Int) (w : World) (M : GM w p base v1 v2 W B) (k0 : 0 ≤ k) (k1 : k ≤ 255) (a0 : 0 ≤ a) (a1 : a < 18446744073709551616) (b0 : 0 ≤ b) (b1 : b < 18446744073709551616) :
    Calls Try.prog 34 #[.pointer (some ⟨p, 0, none⟩), .int .u8 k, .int .i64 t, .int .u64 a, .int .u64 b, .int .u64 x] w fun e w' => e = .returned (.bool (okD W B k t && tD W B k t a == x)) ∧ GDo p base v1 v2 (wD W k t a b) (bD B k t a) w w' := by
  have C := Lib.hid (g_do k t a b w M k0 k1 a0 a1 b0 b1)
  generalize tD W B k t a = y at *
  cases hok : okD W B k t
  · rw [hok] at C
    clear hok M
    go_enter Try.func34, Try.ntmps34
    go_wp2_with fail
    refine C.out.mono ?_
    rintro e w1 ⟨rfl, H1⟩
    have HM := Lib.hid H1
    clear H1
    go_wp2_with fail
    go_ret
    exact ⟨by simp, HM.out⟩
  · rw [hok] at C
    clear hok M
    go_enter Try.func34, Try.ntmps34
    go_wp2_with fail
    refine C.out.mono ?_
    rintro e w1 ⟨rfl, H1⟩
    have HM := Lib.hid H1
    clear H1
    go_wp2_with fail
    go_ret
    exact ⟨by simp, HM.out⟩

/-- what a clone is -/
def Cloned (e : TypeId) (k : IntKind) (W : List Int) (w : World) (en : Ending) (w' : World) : Prop := ∃ u, en = .returned u ∧ w'.ownsRow w.heap.size e 1 u W.length (W.map (Value.int k)) ∧ Below w.heap.size w w'
set_option maxHeartbeats 1000000 in
theorem clone34 (base : Nat) (v : Value) (W : List Int) (w : World) (O : w.ownsRow base 22 1 v W.length (W.map (Value.int .u64))) (l1 : W.length ≤ 2097152) :
    Calls Try.prog 48 #[v] w (Cloned 22 .u64 W w) := by
  have qT : ∀ (w : World) (a : Option Addr) (n c n' c' : Nat), (binOp .eql 34 (.slice a n c) (.slice none n' c')).run Try.prog w = .ok (.bool a.isNone) w := fun w a n c n' c' => Lib.run_eql_slice_nil w _ _ a n c n' c' Try.underlying34
  rcases O.2 with ⟨hv, hn⟩ | ⟨g, cap, cur, hv, _⟩
  · subst hv
    obtain rfl : W = [] := List.eq_nil_of_length_eq_zero hn
    go_enter Try.func48, Try.ntmps48
    go_wp2_with fail
    go_ret
    exact ⟨_, rfl, ⟨by simp, .inl ⟨rfl, rfl⟩⟩, Below.refl _ w⟩
  · subst hv
    obtain ⟨j0, ji, jz0, jz1, jz2⟩ := info_parts Try.info22
    go_enter Try.func48, Try.ntmps48
    go_upto_region 3 with fail
    have O0 : (w.alloc (.cells #[] 22)).ownsRow w.heap.size 22 1 (.slice (some ⟨w.heap.size, 0, none⟩) 0 0) 0 [] := World.ownsRow_made w #[] 0 (Nat.le_refl _) (Nat.zero_le _) rfl
    have F0 : Frm (w.alloc (.cells #[] 22)) (.slice (some ⟨g, 0, none⟩) W.length cap) W.length 1 (W.map (Value.int .u64)) := frm_own (O.alloc _) (one_map _ _)
    have s0 : w.heap.size ≤ (w.alloc (.cells #[] 22)).heap.size := by simp
    have hrow : ∀ j, (Value.slice (some ⟨w.heap.size, 0, none⟩) 0 0).ownBlock = some j → w.heap.size ≤ j := by intro j hj; simp [Value.ownBlock] at hj; omega
    have s1 : 0 + W.length ≤ maxLen := by unfold maxLen; omega
    have s2 : (0 + W.length) * 8 ≤ 140737488355328 := by omega
    go_wp2_with (at_builtin; refine wpList_append_frm rfl (.tmp 5) (.tmp 6) 34 rfl w.heap.size 22 j0 (.int .u64 0) 1 8 Try.underlying34 ji jz0 jz1 jz2 rfl (by decide) _ _ _ rfl O0 _ _ _ rfl F0 s1 s2 s0 ?_; intro v' V1 O1 G1)
    have b1 : Below w.heap.size w V1 := ((Below.refl _ w).alloc (Nat.le_refl _) _).grown G1 s0 hrow
    simp only [Nat.zero_add, List.nil_append] at O1
    go_ret
    exact ⟨_, rfl, O1, b1⟩
set_option maxHeartbeats 1000000 in
theorem clone36 (base : Nat) (v : Value) (W : List Int) (w : World) (O : w.ownsRow base 5 1 v W.length (W.map (Value.int .u8))) (l1 : W.length ≤ 2097152) :
    Calls Try.prog 49 #[v] w (Cloned 5 .u8 W w) := by
  have qT : ∀ (w : World) (a : Option Addr) (n c n' c' : Nat), (binOp .eql 36 (.slice a n c) (.slice none n' c')).run Try.prog w = .ok (.bool a.isNone) w := fun w a n c n' c' => Lib.run_eql_slice_nil w _ _ a n c n' c' Try.underlying36
  rcases O.2 with ⟨hv, hn⟩ | ⟨g, cap, cur, hv, _⟩
  · subst hv
    obtain rfl : W = [] := List.eq_nil_of_length_eq_zero hn
    go_enter Try.func49, Try.ntmps49
    go_wp2_with fail
    go_ret
    exact ⟨_, rfl, ⟨by simp, .inl ⟨rfl, rfl⟩⟩, Below.refl _ w⟩
  · subst hv
    obtain ⟨j0, ji, jz0, jz1, jz2⟩ := info_parts Try.info5
    go_enter Try.func49, Try.ntmps49
    go_upto_region 3 with fail
    have O0 : (w.alloc (.cells #[] 5)).ownsRow w.heap.size 5 1 (.slice (some ⟨w.heap.size, 0, none⟩) 0 0) 0 [] := World.ownsRow_made w #[] 0 (Nat.le_refl _) (Nat.zero_le _) rfl
    have F0 : Frm (w.alloc (.cells #[] 5)) (.slice (some ⟨g, 0, none⟩) W.length cap) W.length 1 (W.map (Value.int .u8)) := frm_own (O.alloc _) (one_map _ _)
    have s0 : w.heap.size ≤ (w.alloc (.cells #[] 5)).heap.size := by simp
    have hrow : ∀ j, (Value.slice (some ⟨w.heap.size, 0, none⟩) 0 0).ownBlock = some j → w.heap.size ≤ j := by intro j hj; simp [Value.ownBlock] at hj; omega
    have s1 : 0 + W.length ≤ maxLen := by unfold maxLen; omega
    have s2 : (0 + W.length) * 1 ≤ 140737488355328 := by omega
    go_wp2_with (at_builtin; refine wpList_append_frm rfl (.tmp 5) (.tmp 6) 36 rfl w.heap.size 5 j0 (.int .u8 0) 1 1 Try.underlying36 ji jz0 jz1 jz2 rfl (by decide) _ _ _ rfl O0 _ _ _ rfl F0 s1 s2 s0 ?_; intro v' V1 O1 G1)
    have b1 : Below w.heap.size w V1 := ((Below.refl _ w).alloc (Nat.le_refl _) _).grown G1 s0 hrow
    simp only [Nat.zero_add, List.nil_append] at O1
    go_ret
    exact ⟨_, rfl, O1, b1⟩
set_option maxHeartbeats 2000000 in
theorem equal34 (e1 e2 : Nat) (a1 a2 : Option Addr) (c1 c2 : Nat) (W1 W2 : List Int) (w : World) (O1 : w.ownsRow e1 22 1 (.slice a1 W1.length c1) W1.length (W1.map (Value.int .u64))) (O2 : w.ownsRow e2 22 1 (.slice a2 W2.length c2) W2.length (W2.map (Value.int .u64))) (l1 : W1.length ≤ 2097152) :
    Calls Try.prog 50 #[.slice a1 W1.length c1, .slice a2 W2.length c2] w fun e w' => e = .returned (.bool (decide (W1 = W2))) ∧ Below w.heap.size w w' := by
  by_cases hl : W1.length = W2.length
  · obtain ⟨n, hn⟩ : ∃ n, n = W1.length := ⟨_, rfl⟩
    have HO1 := Lib.hid O1
    have HO2 := Lib.hid O2
    have hn2 : n = W2.length := hn.trans hl
    have HN1 := Lib.hid hn
    have HN2 := Lib.hid hn2
    rw [← hn, ← hn2]
    rw [← hn] at l1
    clear O1 O2 hn hn2 hl
    have HB0 := Lib.hid (Below.refl w.heap.size w)
    go_enter Try.func50, Try.ntmps50
    go_wp2_with fail
    go_loopw [13] (fun i wr => ∃ j : Nat, j ≤ n ∧ i = .int .i64 j ∧ (∀ i, i < j → W1.getD i 0 = W2.getD i 0) ∧ Below w.heap.size w wr) (fun i _ => n - (intOf i).toNat)
    case atStart => exact ⟨0, by omega, rfl, fun i hi => by omega, HB0.out⟩
    case round =>
      clear HB0
      obtain ⟨j, hj, rfl, hall, hB⟩ := hrel
      by_cases hjn : j < n
      · have O1 := own_below HO1.out hB
        have O2 := own_below HO2.out hB
        have j1 : j < W1.length := by have := HN1.out; omega
        have j2 : j < W2.length := by have := HN2.out; omega
        obtain ⟨g1, d1, f1, _, _⟩ := own_open O1 (by omega)
        obtain ⟨g2, d2, f2, _, _⟩ := own_open O2 (by omega)
        injection f1 with f1a _ _
        injection f2 with f2a _ _
        subst f1a f2a
        have q1 := O1.cellAt j (by omega)
        have q2 := O2.cellAt j (by omega)
        have r1 : (W1.map (Value.int .u64))[j]? = some (.int .u64 (W1.getD j 0)) := by simp [List.getD, j1]
        have r2 : (W2.map (Value.int .u64))[j]? = some (.int .u64 (W2.getD j 0)) := by simp [List.getD, j2]
        have m1 := bel_cell (q1.trans r1)
        have m2 := bel_cell (q2.trans r2)
        have i0 : (0 : Int) ≤ (j : Int) := by omega
        have i1 : (j : Int) < (n : Int) := by omega
        have HALL := Lib.hid hall
        clear q1 q2 r1 r2 O1 O2 j1 j2 hall
        by_cases hxy : W1.getD j 0 = W2.getD j 0
        · have HXY := Lib.hid hxy
          rw [← hxy] at m2
          clear hxy
          obtain ⟨x, hx⟩ : ∃ x, x = W1.getD j 0 := ⟨_, rfl⟩
          rw [← hx] at m1 m2
          clear hx
          go_upto_region 6 with fail
          refine region_below (by kernel_rfl) (by kernel_rfl) ?_
          repeat (go_big_quiet_step (fail))
          refine wpQuiet_nil ?_
          rintro w5 ⟨s, rfl⟩
          have B5 := bnext hB s.2
          go_wp2_with fail
          go_roundw
          case rel =>
            refine ⟨j + 1, by omega, by go_num, ?_, B5⟩
            intro i hi
            by_cases h : i < j
            · exact HALL.out i h
            · obtain rfl : i = j := by omega
              exact HXY.out
          case measure => simp [intOf]; omega
        · have hne : decide (W1 = W2) = false := decide_eq_false (fun h => hxy (by rw [h]))
          have HNE := Lib.hid hne
          have hxy2 : (W1.getD j 0 == W2.getD j 0) = false := by simpa using hxy
          have hxy3 : (W1.getD j 0 != W2.getD j 0) = true := by simpa using hxy
          clear hxy hne
          generalize W1.getD j 0 = x at *
          generalize W2.getD j 0 = y at *
          go_upto_region 6 with fail
          refine region_below (by kernel_rfl) (by kernel_rfl) ?_
          repeat (go_big_quiet_step (fail))
          refine wpQuiet_nil ?_
          rintro w5 ⟨s, rfl⟩
          have B5 := bnext hB s.2
          go_wp2_with fail
          go_ret
          exact ⟨by rw [HNE.out]; rfl, B5⟩
      · obtain rfl : j = n := by omega
        have heq : W1 = W2 := by
          have h1 := HN1.out
          have h2 := HN2.out
          apply List.ext_getElem?
          intro i
          by_cases hi : i < j
          · have := hall i hi
            simp [List.getD] at this
            rw [List.getElem?_eq_getElem (by omega), List.getElem?_eq_getElem (by omega)] at this ⊢
            simpa using this
          · rw [List.getElem?_eq_none (by omega), List.getElem?_eq_none (by omega)]
        have hd : decide (W1 = W2) = true := decide_eq_true heq
        have HD := Lib.hid hd
        clear heq hd hall
        go_wp2_with fail
        go_ret
        exact ⟨by rw [HD.out]; rfl, hB⟩
  · have hne : decide (W1 = W2) = false := decide_eq_false (fun h => hl (by rw [h]))
    rw [hne]
    have h1 : ((W1.length : Int) == (W2.length : Int)) = false := by simp; omega
    have h2 : ((W1.length : Int) != (W2.length : Int)) = true := by simp; omega
    clear O1 O2
    go_enter Try.func50, Try.ntmps50
    go_wp2_with fail
    go_ret
    exact ⟨rfl, Below.refl _ w⟩
set_option maxHeartbeats 2000000 in
theorem equal36 (e1 e2 : Nat) (a1 a2 : Option Addr) (c1 c2 : Nat) (W1 W2 : List Int) (w : World) (O1 : w.ownsRow e1 5 1 (.slice a1 W1.length c1) W1.length (W1.map (Value.int .u8))) (O2 : w.ownsRow e2 5 1 (.slice a2 W2.length c2) W2.length (W2.map (Value.int .u8))) (l1 : W1.length ≤ 2097152) :
    Calls Try.prog 51 #[.slice a1 W1.length c1, .slice a2 W2.length c2] w fun e w' => e = .returned (.bool (decide (W1 = W2))) ∧ Below w.heap.size w w' := by
  by_cases hl : W1.length = W2.length
  · obtain ⟨n, hn⟩ : ∃ n, n = W1.length := ⟨_, rfl⟩
    have HO1 := Lib.hid O1
    have HO2 := Lib.hid O2
    have hn2 : n = W2.length := hn.trans hl
    have HN1 := Lib.hid hn
    have HN2 := Lib.hid hn2
    rw [← hn, ← hn2]
    rw [← hn] at l1
    clear O1 O2 hn hn2 hl
    have HB0 := Lib.hid (Below.refl w.heap.size w)
    go_enter Try.func51, Try.ntmps51
    go_wp2_with fail
    go_loopw [13] (fun i wr => ∃ j : Nat, j ≤ n ∧ i = .int .i64 j ∧ (∀ i, i < j → W1.getD i 0 = W2.getD i 0) ∧ Below w.heap.size w wr) (fun i _ => n - (intOf i).toNat)
    case atStart => exact ⟨0, by omega, rfl, fun i hi => by omega, HB0.out⟩
    case round =>
      clear HB0
      obtain ⟨j, hj, rfl, hall, hB⟩ := hrel
      by_cases hjn : j < n
      · have O1 := own_below HO1.out hB
        have O2 := own_below HO2.out hB
        have j1 : j < W1.length := by have := HN1.out; omega
        have j2 : j < W2.length := by have := HN2.out; omega
        obtain ⟨g1, d1, f1, _, _⟩ := own_open O1 (by omega)
        obtain ⟨g2, d2, f2, _, _⟩ := own_open O2 (by omega)
        injection f1 with f1a _ _
        injection f2 with f2a _ _
        subst f1a f2a
        have q1 := O1.cellAt j (by omega)
        have q2 := O2.cellAt j (by omega)
        have r1 : (W1.map (Value.int .u8))[j]? = some (.int .u8 (W1.getD j 0)) := by simp [List.getD, j1]
        have r2 : (W2.map (Value.int .u8))[j]? = some (.int .u8 (W2.getD j 0)) := by simp [List.getD, j2]
        have m1 := bel_cell (q1.trans r1)
        have m2 := bel_cell (q2.trans r2)
        have i0 : (0 : Int) ≤ (j : Int) := by omega
        have i1 : (j : Int) < (n : Int) := by omega
        have HALL := Lib.hid hall
        clear q1 q2 r1 r2 O1 O2 j1 j2 hall
        by_cases hxy : W1.getD j 0 = W2.getD j 0
        · have HXY := Lib.hid hxy
          rw [← hxy] at m2
          clear hxy
          obtain ⟨x, hx⟩ : ∃ x, x = W1.getD j 0 := ⟨_, rfl⟩
          rw [← hx] at m1 m2
          clear hx
          go_upto_region 6 with fail
          refine region_below (by kernel_rfl) (by kernel_rfl) ?_
          repeat (go_big_quiet_step (fail))
          refine wpQuiet_nil ?_
          rintro w5 ⟨s, rfl⟩
          have B5 := bnext hB s.2
          go_wp2_with fail
          go_roundw
          case rel =>
            refine ⟨j + 1, by omega, by go_num, ?_, B5⟩
            intro i hi
            by_cases h : i < j
            · exact HALL.out i h
            · obtain rfl : i = j := by omega
              exact HXY.out
          case measure => simp [intOf]; omega
        · have hne : decide (W1 = W2) = false := decide_eq_false (fun h => hxy (by rw [h]))
          have HNE := Lib.hid hne
          have hxy2 : (W1.getD j 0 == W2.getD j 0) = false := by simpa using hxy
          have hxy3 : (W1.getD j 0 != W2.getD j 0) = true := by simpa using hxy
          clear hxy hne
          generalize W1.getD j 0 = x at *
          generalize W2.getD j 0 = y at *
          go_upto_region 6 with fail
          refine region_below (by kernel_rfl) (by kernel_rfl) ?_
          repeat (go_big_quiet_step (fail))
          refine wpQuiet_nil ?_
          rintro w5 ⟨s, rfl⟩
          have B5 := bnext hB s.2
          go_wp2_with fail
          go_ret
          exact ⟨by rw [HNE.out]; rfl, B5⟩
      · obtain rfl : j = n := by omega
        have heq : W1 = W2 := by
          have h1 := HN1.out
          have h2 := HN2.out
          apply List.ext_getElem?
          intro i
          by_cases hi : i < j
          · have := hall i hi
            simp [List.getD] at this
            rw [List.getElem?_eq_getElem (by omega), List.getElem?_eq_getElem (by omega)] at this ⊢
            simpa using this
          · rw [List.getElem?_eq_none (by omega), List.getElem?_eq_none (by omega)]
        have hd : decide (W1 = W2) = true := decide_eq_true heq
        have HD := Lib.hid hd
        clear heq hd hall
        go_wp2_with fail
        go_ret
        exact ⟨by rw [HD.out]; rfl, hB⟩
  · have hne : decide (W1 = W2) = false := decide_eq_false (fun h => hl (by rw [h]))
    rw [hne]
    have h1 : ((W1.length : Int) == (W2.length : Int)) = false := by simp; omega
    have h2 : ((W1.length : Int) != (W2.length : Int)) = true := by simp; omega
    clear O1 O2
    go_enter Try.func51, Try.ntmps51
    go_wp2_with fail
    go_ret
    exact ⟨rfl, Below.refl _ w⟩
end Go.Proofs.Ytmdagppeeejikaa
