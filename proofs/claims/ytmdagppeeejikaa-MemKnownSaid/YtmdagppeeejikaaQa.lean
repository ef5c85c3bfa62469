/- A memory whose words and bytes may have spare room (a copy): Do by its numbers. Condition: the numbers fit their kinds. -/
import Derived.Test.YtmdagppeeejikaaMr
import Derived.Test.YtmdagppeeejikaaNa
namespace Go.Proofs.Ytmdagppeeejikaa
open Go.RowKit
set_option linter.unusedVariables false

/-- block p is a memory; its words and bytes are slices of its own -/
structure GM (w : World) (p base : Nat) (v1 v2 : Value) (W B : List Int) : Prop where
  top : At w p #[v1, v2] 78
  ref : Ref w base v1 v2 W B
  wlen : W.length ≤ 2097152
  blen : B.length ≤ 1048576
  wwf : ∀ x ∈ W, 0 ≤ x ∧ x < 18446744073709551616
  bwf : ∀ x ∈ B, 0 ≤ x ∧ x < 256
theorem GM.below {w w' : World} {p base : Nat} {v1 v2 : Value} {W B : List Int} (h : GM w p base v1 v2 W B) (hb : Below w.heap.size w w') : GM w' p base v1 v2 W B :=
  ⟨h.top.below hb, h.ref.below hb, h.wlen, h.blen, h.wwf, h.bwf⟩
/-- the blocks of two slices -/
def own2 (v1 v2 : Value) : List Nat := v1.ownBlock.toList ++ v2.ownBlock.toList
theorem own2_1 {v1 v2 : Value} {k : Nat} (h : v1.ownBlock = some k) : k ∈ own2 v1 v2 := by simp [own2, h]
theorem own2_2 {v1 v2 : Value} {k : Nat} (h : v2.ownBlock = some k) : k ∈ own2 v1 v2 := by simp [own2, h]
theorem own_off {w : World} {base e size n R : Nat} {v : Value} {xs : List Value} {cs : Array Value} {t : TypeId} (h : w.ownsRow base e size v n xs) (hA : At w R cs t) (hne : e ≠ t) : ∀ k, v.ownBlock = some k → k ≠ R := by
  intro k hk
  rcases h.2 with ⟨rfl, _⟩ | ⟨g, cap, cur, rfl, hg, hh, _⟩
  · simp [Value.ownBlock] at hk
  · simp [Value.ownBlock] at hk
    subst hk
    exact At.ne (cs := cur) (t := e) hh hA hne
theorem own_off2 {w : World} {base base' e e' size size' n n' : Nat} {v v' : Value} {xs xs' : List Value} (h : w.ownsRow base e size v n xs) (h' : w.ownsRow base' e' size' v' n' xs') (hne : e ≠ e') : ∀ k, v.ownBlock = some k → ∀ j, v'.ownBlock = some j → k ≠ j := by
  intro k hk j hj
  rcases h'.2 with ⟨rfl, _⟩ | ⟨g, cap, cur, rfl, hg, hh, _⟩
  · simp [Value.ownBlock] at hj
  · simp [Value.ownBlock] at hj
    subst hj
    exact own_off h (cs := cur) (t := e') hh hne k hk
theorem own_put {w : World} {base e size n : Nat} {v : Value} {xs : List Value} (h : w.ownsRow base e size v n xs) (q : Addr) (a : Value) (hne : ∀ k, v.ownBlock = some k → k ≠ q.block) : (w.setCell q a).ownsRow base e size v n xs := by
  obtain ⟨hl, h⟩ := h
  refine ⟨hl, ?_⟩
  rcases h with h | ⟨g, cap, cur, hv, hg, hh, r⟩
  · exact .inl h
  · exact .inr ⟨g, cap, cur, hv, hg, (heap_setCell_other _ _ _ _ (hne g (by rw [hv]; rfl))).trans hh, r⟩
theorem at_put {w : World} {b : Nat} {cs : Array Value} {t : TypeId} (h : At w b cs t) (q : Addr) (v : Value) (hne : b ≠ q.block) : At (w.setCell q v) b cs t := by
  unfold At
  rw [heap_setCell_other _ _ _ _ hne]
  exact h
theorem GM.setW {w : World} {p base g c : Nat} {v2 : Value} {W B : List Int} (h : GM w p base (.slice (some ⟨g, 0, none⟩) W.length c) v2 W B) (i : Nat) (v : Int) (hv : 0 ≤ v ∧ v < 18446744073709551616) :
    GM (w.setCell ⟨g, i, none⟩ (.int .u64 v)) p base (.slice (some ⟨g, 0, none⟩) W.length c) v2 (W.set i v) B := by
  have hp : g ≠ p := own_off h.ref.words h.top (by decide) g rfl
  refine ⟨at_put h.top ⟨g, i, none⟩ _ hp.symm, ⟨?_, own_put h.ref.bytes ⟨g, i, none⟩ _ (fun k hk => own_off2 h.ref.bytes h.ref.words (by decide) k hk g rfl)⟩, by simpa using h.wlen, h.blen, set_wf h.wwf i v hv, h.bwf⟩
  have := (h.ref.words.stored i (.int .u64 v)).1
  rw [← List.map_set] at this
  rw [List.length_set]
  exact this
theorem GM.setB {w : World} {p base g c : Nat} {v1 : Value} {W B : List Int} (h : GM w p base v1 (.slice (some ⟨g, 0, none⟩) B.length c) W B) (i : Nat) (v : Int) (hv : 0 ≤ v ∧ v < 256) :
    GM (w.setCell ⟨g, i, none⟩ (.int .u8 v)) p base v1 (.slice (some ⟨g, 0, none⟩) B.length c) W (B.set i v) := by
  have hp : g ≠ p := own_off h.ref.bytes h.top (by decide) g rfl
  refine ⟨at_put h.top ⟨g, i, none⟩ _ hp.symm, ⟨own_put h.ref.words ⟨g, i, none⟩ _ (fun k hk => own_off2 h.ref.words h.ref.bytes (by decide) k hk g rfl), ?_⟩, h.wlen, by simpa using h.blen, h.wwf, set_wf h.bwf i v hv⟩
  have := (h.ref.bytes.stored i (.int .u8 v)).1
  rw [← List.map_set] at this
  rw [List.length_set]
  exact this

set_option maxHeartbeats 1000000 in
theorem g_out1 (p base : Nat) (v1 v2 : Value) (W B : List Int) (t a b : Int) (w : World) (M : GM w p base v1 v2 W B) (h : t < 0 ∨ (W.length : Int) ≤ t) :
    Calls Try.prog 15 #[.pointer (some ⟨p, 0, none⟩), .agg #[.int .u8 1, .int .i64 t, .int .u64 a, .int .u64 b]] w fun e w' => e = .returned (.tuple #[.int .u64 0, .bool false]) ∧ Below w.heap.size w w' := by
  obtain ⟨a1, c1, rfl⟩ := own_shape M.ref.words
  obtain ⟨a2, c2, rfl⟩ := own_shape M.ref.bytes
  go_enter Try.func15, Try.ntmps15
  go_upto_region 6 with fail
  generalize hV : World.alloc w _ = V
  have hB : Below w.heap.size w V := hV ▸ (Below.refl _ w).alloc (Nat.le_refl _) _
  have X : At V w.heap.size #[.int .u8 1, .int .i64 t, .int .u64 a, .int .u64 b] 30 := hV ▸ At.last w _ 30
  have Me := M.below hB
  clear hV M
  have x0 := bel_cell (X.cell 0 rfl)
  have x1 := bel_cell (X.cell 1 rfl)
  have x2 := bel_cell (X.cell 2 rfl)
  have x3 := bel_cell (X.cell 3 rfl)
  have Cn := Lib.hid (fun s : Bel V => below_same (w := V) (s := s) (words_any s.1 p _ W.length c1 a1 (Me.top.below s.2)))
  clear Me X
  by_cases ht : t < 0
  · have z1 : decide (t < 0) = true := decide_eq_true ht
    clear h
    refine region_below (by kernel_rfl) (by kernel_rfl) ?_
    repeat (go_big_quiet_step ((go_at_call 20; exact Cn.out _)))
    refine wpQuiet_nil ?_
    rintro w5 ⟨s, rfl⟩
    go_wp2_with fail
    go_ret2
    exact ⟨rfl, bnext hB s.2⟩
  · have h2 : (W.length : Int) ≤ t := by omega
    have z1 : decide (t < 0) = false := decide_eq_false ht
    have z2 : decide ((W.length : Int) ≤ t) = true := decide_eq_true h2
    have z3 : decide (t ≥ (W.length : Int)) = true := decide_eq_true h2
    clear h
    refine region_below (by kernel_rfl) (by kernel_rfl) ?_
    repeat (go_big_quiet_step ((go_at_call 20; exact Cn.out _)))
    refine wpQuiet_nil ?_
    rintro w5 ⟨s, rfl⟩
    go_wp2_with fail
    go_ret2
    exact ⟨rfl, bnext hB s.2⟩
set_option maxHeartbeats 1000000 in
theorem g_out2 (p base : Nat) (v1 v2 : Value) (W B : List Int) (t a b : Int) (w : World) (M : GM w p base v1 v2 W B) (h : t < 0 ∨ (W.length : Int) ≤ t) :
    Calls Try.prog 15 #[.pointer (some ⟨p, 0, none⟩), .agg #[.int .u8 2, .int .i64 t, .int .u64 a, .int .u64 b]] w fun e w' => e = .returned (.tuple #[.int .u64 0, .bool false]) ∧ Below w.heap.size w w' := by
  obtain ⟨a1, c1, rfl⟩ := own_shape M.ref.words
  obtain ⟨a2, c2, rfl⟩ := own_shape M.ref.bytes
  go_enter Try.func15, Try.ntmps15
  go_upto_region 6 with fail
  generalize hV : World.alloc w _ = V
  have hB : Below w.heap.size w V := hV ▸ (Below.refl _ w).alloc (Nat.le_refl _) _
  have X : At V w.heap.size #[.int .u8 2, .int .i64 t, .int .u64 a, .int .u64 b] 30 := hV ▸ At.last w _ 30
  have Me := M.below hB
  clear hV M
  have x0 := bel_cell (X.cell 0 rfl)
  have x1 := bel_cell (X.cell 1 rfl)
  have x2 := bel_cell (X.cell 2 rfl)
  have x3 := bel_cell (X.cell 3 rfl)
  have Cn := Lib.hid (fun s : Bel V => below_same (w := V) (s := s) (words_any s.1 p _ W.length c1 a1 (Me.top.below s.2)))
  clear Me X
  by_cases ht : t < 0
  · have z1 : decide (t < 0) = true := decide_eq_true ht
    clear h
    refine region_below (by kernel_rfl) (by kernel_rfl) ?_
    repeat (go_big_quiet_step ((go_at_call 20; exact Cn.out _)))
    refine wpQuiet_nil ?_
    rintro w5 ⟨s, rfl⟩
    go_wp2_with fail
    go_ret2
    exact ⟨rfl, bnext hB s.2⟩
  · have h2 : (W.length : Int) ≤ t := by omega
    have z1 : decide (t < 0) = false := decide_eq_false ht
    have z2 : decide ((W.length : Int) ≤ t) = true := decide_eq_true h2
    have z3 : decide (t ≥ (W.length : Int)) = true := decide_eq_true h2
    clear h
    refine region_below (by kernel_rfl) (by kernel_rfl) ?_
    repeat (go_big_quiet_step ((go_at_call 20; exact Cn.out _)))
    refine wpQuiet_nil ?_
    rintro w5 ⟨s, rfl⟩
    go_wp2_with fail
    go_ret2
    exact ⟨rfl, bnext hB s.2⟩
set_option maxHeartbeats 1000000 in
theorem g_out3 (p base : Nat) (v1 v2 : Value) (W B : List Int) (t a b : Int) (w : World) (M : GM w p base v1 v2 W B) (h : t < 0 ∨ (W.length : Int) ≤ t) :
    Calls Try.prog 15 #[.pointer (some ⟨p, 0, none⟩), .agg #[.int .u8 3, .int .i64 t, .int .u64 a, .int .u64 b]] w fun e w' => e = .returned (.tuple #[.int .u64 0, .bool false]) ∧ Below w.heap.size w w' := by
  obtain ⟨a1, c1, rfl⟩ := own_shape M.ref.words
  obtain ⟨a2, c2, rfl⟩ := own_shape M.ref.bytes
  go_enter Try.func15, Try.ntmps15
  go_upto_region 6 with fail
  generalize hV : World.alloc w _ = V
  have hB : Below w.heap.size w V := hV ▸ (Below.refl _ w).alloc (Nat.le_refl _) _
  have X : At V w.heap.size #[.int .u8 3, .int .i64 t, .int .u64 a, .int .u64 b] 30 := hV ▸ At.last w _ 30
  have Me := M.below hB
  clear hV M
  have x0 := bel_cell (X.cell 0 rfl)
  have x1 := bel_cell (X.cell 1 rfl)
  have x2 := bel_cell (X.cell 2 rfl)
  have x3 := bel_cell (X.cell 3 rfl)
  have Cn := Lib.hid (fun s : Bel V => below_same (w := V) (s := s) (words_any s.1 p _ W.length c1 a1 (Me.top.below s.2)))
  clear Me X
  by_cases ht : t < 0
  · have z1 : decide (t < 0) = true := decide_eq_true ht
    clear h
    refine region_below (by kernel_rfl) (by kernel_rfl) ?_
    repeat (go_big_quiet_step ((go_at_call 20; exact Cn.out _)))
    refine wpQuiet_nil ?_
    rintro w5 ⟨s, rfl⟩
    go_wp2_with fail
    go_ret2
    exact ⟨rfl, bnext hB s.2⟩
  · have h2 : (W.length : Int) ≤ t := by omega
    have z1 : decide (t < 0) = false := decide_eq_false ht
    have z2 : decide ((W.length : Int) ≤ t) = true := decide_eq_true h2
    have z3 : decide (t ≥ (W.length : Int)) = true := decide_eq_true h2
    clear h
    refine region_below (by kernel_rfl) (by kernel_rfl) ?_
    repeat (go_big_quiet_step ((go_at_call 20; exact Cn.out _)))
    refine wpQuiet_nil ?_
    rintro w5 ⟨s, rfl⟩
    go_wp2_with fail
    go_ret2
    exact ⟨rfl, bnext hB s.2⟩
set_option maxHeartbeats 1000000 in
theorem g_out4 (p base : Nat) (v1 v2 : Value) (W B : List Int) (t a b : Int) (w : World) (M : GM w p base v1 v2 W B) (h : t < 0 ∨ (W.length : Int) ≤ t) :
    Calls Try.prog 15 #[.pointer (some ⟨p, 0, none⟩), .agg #[.int .u8 4, .int .i64 t, .int .u64 a, .int .u64 b]] w fun e w' => e = .returned (.tuple #[.int .u64 0, .bool false]) ∧ Below w.heap.size w w' := by
  obtain ⟨a1, c1, rfl⟩ := own_shape M.ref.words
  obtain ⟨a2, c2, rfl⟩ := own_shape M.ref.bytes
  go_enter Try.func15, Try.ntmps15
  go_upto_region 6 with fail
  generalize hV : World.alloc w _ = V
  have hB : Below w.heap.size w V := hV ▸ (Below.refl _ w).alloc (Nat.le_refl _) _
  have X : At V w.heap.size #[.int .u8 4, .int .i64 t, .int .u64 a, .int .u64 b] 30 := hV ▸ At.last w _ 30
  have Me := M.below hB
  clear hV M
  have x0 := bel_cell (X.cell 0 rfl)
  have x1 := bel_cell (X.cell 1 rfl)
  have x2 := bel_cell (X.cell 2 rfl)
  have x3 := bel_cell (X.cell 3 rfl)
  have Cn := Lib.hid (fun s : Bel V => below_same (w := V) (s := s) (words_any s.1 p _ W.length c1 a1 (Me.top.below s.2)))
  clear Me X
  by_cases ht : t < 0
  · have z1 : decide (t < 0) = true := decide_eq_true ht
    clear h
    refine region_below (by kernel_rfl) (by kernel_rfl) ?_
    repeat (go_big_quiet_step ((go_at_call 20; exact Cn.out _)))
    refine wpQuiet_nil ?_
    rintro w5 ⟨s, rfl⟩
    go_wp2_with fail
    go_ret2
    exact ⟨rfl, bnext hB s.2⟩
  · have h2 : (W.length : Int) ≤ t := by omega
    have z1 : decide (t < 0) = false := decide_eq_false ht
    have z2 : decide ((W.length : Int) ≤ t) = true := decide_eq_true h2
    have z3 : decide (t ≥ (W.length : Int)) = true := decide_eq_true h2
    clear h
    refine region_below (by kernel_rfl) (by kernel_rfl) ?_
    repeat (go_big_quiet_step ((go_at_call 20; exact Cn.out _)))
    refine wpQuiet_nil ?_
    rintro w5 ⟨s, rfl⟩
    go_wp2_with fail
    go_ret2
    exact ⟨rfl, bnext hB s.2⟩
set_option maxHeartbeats 1000000 in
theorem g_out5 (p base : Nat) (v1 v2 : Value) (W B : List Int) (t a b : Int) (w : World) (M : GM w p base v1 v2 W B) (h : t < 0 ∨ (B.length : Int) ≤ t) :
    Calls Try.prog 15 #[.pointer (some ⟨p, 0, none⟩), .agg #[.int .u8 5, .int .i64 t, .int .u64 a, .int .u64 b]] w fun e w' => e = .returned (.tuple #[.int .u64 0, .bool false]) ∧ Below w.heap.size w w' := by
  obtain ⟨a1, c1, rfl⟩ := own_shape M.ref.words
  obtain ⟨a2, c2, rfl⟩ := own_shape M.ref.bytes
  go_enter Try.func15, Try.ntmps15
  go_upto_region 13 with fail
  generalize hV : World.alloc w _ = V
  have hB : Below w.heap.size w V := hV ▸ (Below.refl _ w).alloc (Nat.le_refl _) _
  have X : At V w.heap.size #[.int .u8 5, .int .i64 t, .int .u64 a, .int .u64 b] 30 := hV ▸ At.last w _ 30
  have Me := M.below hB
  clear hV M
  have x0 := bel_cell (X.cell 0 rfl)
  have x1 := bel_cell (X.cell 1 rfl)
  have x2 := bel_cell (X.cell 2 rfl)
  have x3 := bel_cell (X.cell 3 rfl)
  have Cn := Lib.hid (fun s : Bel V => below_same (w := V) (s := s) (bytes_any s.1 p _ B.length c2 a2 (Me.top.below s.2)))
  clear Me X
  by_cases ht : t < 0
  · have z1 : decide (t < 0) = true := decide_eq_true ht
    clear h
    refine region_below (by kernel_rfl) (by kernel_rfl) ?_
    repeat (go_big_quiet_step ((go_at_call 21; exact Cn.out _)))
    refine wpQuiet_nil ?_
    rintro w5 ⟨s, rfl⟩
    go_wp2_with fail
    go_ret2
    exact ⟨rfl, bnext hB s.2⟩
  · have h2 : (B.length : Int) ≤ t := by omega
    have z1 : decide (t < 0) = false := decide_eq_false ht
    have z2 : decide ((B.length : Int) ≤ t) = true := decide_eq_true h2
    have z3 : decide (t ≥ (B.length : Int)) = true := decide_eq_true h2
    clear h
    refine region_below (by kernel_rfl) (by kernel_rfl) ?_
    repeat (go_big_quiet_step ((go_at_call 21; exact Cn.out _)))
    refine wpQuiet_nil ?_
    rintro w5 ⟨s, rfl⟩
    go_wp2_with fail
    go_ret2
    exact ⟨rfl, bnext hB s.2⟩
set_option maxHeartbeats 1000000 in
theorem g_out6 (p base : Nat) (v1 v2 : Value) (W B : List Int) (t a b : Int) (w : World) (M : GM w p base v1 v2 W B) (h : t < 0 ∨ (B.length : Int) ≤ t) :
    Calls Try.prog 15 #[.pointer (some ⟨p, 0, none⟩), .agg #[.int .u8 6, .int .i64 t, .int .u64 a, .int .u64 b]] w fun e w' => e = .returned (.tuple #[.int .u64 0, .bool false]) ∧ Below w.heap.size w w' := by
  obtain ⟨a1, c1, rfl⟩ := own_shape M.ref.words
  obtain ⟨a2, c2, rfl⟩ := own_shape M.ref.bytes
  go_enter Try.func15, Try.ntmps15
  go_upto_region 13 with fail
  generalize hV : World.alloc w _ = V
  have hB : Below w.heap.size w V := hV ▸ (Below.refl _ w).alloc (Nat.le_refl _) _
  have X : At V w.heap.size #[.int .u8 6, .int .i64 t, .int .u64 a, .int .u64 b] 30 := hV ▸ At.last w _ 30
  have Me := M.below hB
  clear hV M
  have x0 := bel_cell (X.cell 0 rfl)
  have x1 := bel_cell (X.cell 1 rfl)
  have x2 := bel_cell (X.cell 2 rfl)
  have x3 := bel_cell (X.cell 3 rfl)
  have Cn := Lib.hid (fun s : Bel V => below_same (w := V) (s := s) (bytes_any s.1 p _ B.length c2 a2 (Me.top.below s.2)))
  clear Me X
  by_cases ht : t < 0
  · have z1 : decide (t < 0) = true := decide_eq_true ht
    clear h
    refine region_below (by kernel_rfl) (by kernel_rfl) ?_
    repeat (go_big_quiet_step ((go_at_call 21; exact Cn.out _)))
    refine wpQuiet_nil ?_
    rintro w5 ⟨s, rfl⟩
    go_wp2_with fail
    go_ret2
    exact ⟨rfl, bnext hB s.2⟩
  · have h2 : (B.length : Int) ≤ t := by omega
    have z1 : decide (t < 0) = false := decide_eq_false ht
    have z2 : decide ((B.length : Int) ≤ t) = true := decide_eq_true h2
    have z3 : decide (t ≥ (B.length : Int)) = true := decide_eq_true h2
    clear h
    refine region_below (by kernel_rfl) (by kernel_rfl) ?_
    repeat (go_big_quiet_step ((go_at_call 21; exact Cn.out _)))
    refine wpQuiet_nil ?_
    rintro w5 ⟨s, rfl⟩
    go_wp2_with fail
    go_ret2
    exact ⟨rfl, bnext hB s.2⟩
set_option maxHeartbeats 1000000 in
theorem g_in1 (p base : Nat) (v1 v2 : Value) (W B : List Int) (i : Nat) (a b : Int) (w : World) (M : GM w p base v1 v2 W B) (h : i < W.length) (a0 : 0 ≤ a) (a1 : a < 18446744073709551616) (b0 : 0 ≤ b) (b1 : b < 18446744073709551616) :
    Calls Try.prog 15 #[.pointer (some ⟨p, 0, none⟩), .agg #[.int .u8 1, .int .i64 i, .int .u64 a, .int .u64 b]] w fun e w' => e = .returned (.tuple #[.int .u64 (W.getD i 0), .bool true]) ∧ GM w' p base v1 v2 (W.set i (W.getD i 0)) B ∧ Ch (own2 v1 v2) w w' := by
  have hv := getD_wf M.wwf i h
  have hwx : (W.map (Value.int .u64))[i]? = some (.int .u64 (W.getD i 0)) := by simp [List.getD, h]
  obtain ⟨g, c, rfl, hg, hg'⟩ := own_open M.ref.words (by omega)
  obtain ⟨e2, c2, rfl⟩ := own_shape M.ref.bytes
  have HS := Lib.hid (fun (w : World) (M : GM w p base (.slice (some ⟨g, 0, none⟩) W.length c) (.slice e2 B.length c2) W B) v hv => GM.setW M i v hv)
  have HL := Lib.hid h
  have hn := M.wlen
  have i0 : (0 : Int) ≤ (i : Int) := by omega
  have i1 : (i : Int) < (W.length : Int) := by omega
  have z1 : decide ((i : Int) < 0) = false := decide_eq_false (by omega)
  have z2 : decide ((W.length : Int) ≤ (i : Int)) = false := decide_eq_false (by omega)
  have z3 : decide ((i : Int) ≥ (W.length : Int)) = false := decide_eq_false (by omega)
  obtain ⟨x, hx⟩ : ∃ x, x = W.getD i 0 := ⟨_, rfl⟩
  rw [← hx] at hv hwx
  rw [← hx]
  have HX := Lib.hid hx
  clear hx
  have HC := Lib.hid (fun (s : World) (M : GM s p base (.slice (some ⟨g, 0, none⟩) W.length c) (.slice e2 B.length c2) W B) => (M.ref.words.cellAt i (by omega)).trans hwx)
  clear hwx
  obtain ⟨y0', y1'⟩ := hv
  have ix : ∀ w, (Instr.index 82 (.agg #[.nilFunc, .func (.func 52) #[] #[], .func (.func 53) #[] #[], .func (.func 54) #[] #[], .func (.func 55) #[] #[]]) (.int .u8 1)).run Try.prog w = .ok (.func (.func 52) #[] #[]) w := fun _ => by kernel_rfl
  go_enter Try.func15, Try.ntmps15
  go_upto_region 6 with fail
  generalize hV : World.alloc w _ = V
  have hB : Below w.heap.size w V := hV ▸ (Below.refl _ w).alloc (Nat.le_refl _) _
  have X : At V w.heap.size #[.int .u8 1, .int .i64 i, .int .u64 a, .int .u64 b] 30 := hV ▸ At.last w _ 30
  have Me := M.below hB
  clear hV M
  have x0 := bel_cell (X.cell 0 rfl)
  have x1 := bel_cell (X.cell 1 rfl)
  have x2 := bel_cell (X.cell 2 rfl)
  have x3 := bel_cell (X.cell 3 rfl)
  have Cn := Lib.hid (fun s : Bel V => below_same (w := V) (s := s) (words_any s.1 p _ W.length c _ (Me.top.below s.2)))
  refine region_below (by kernel_rfl) (by kernel_rfl) ?_
  repeat (go_big_quiet_step ((go_at_call 20; exact Cn.out _)))
  refine wpQuiet_nil ?_
  rintro w5 ⟨s, rfl⟩
  have B5 := bnext hB s.2
  have M5 := Me.below s.2
  have X5 := X.below s.2
  generalize s.1 = V5 at *
  clear x0 x1 x2 x3 Cn Me X hB
  go_upto_region 8 with fail
  have x0 := bel_cell (X5.cell 0 rfl)
  have x1 := bel_cell (X5.cell 1 rfl)
  have x2 := bel_cell (X5.cell 2 rfl)
  have x3 := bel_cell (X5.cell 3 rfl)
  have m0 := bel_cell (M5.top.cell 0 rfl)
  have m1 := bel_cell (HC.out _ M5)
  refine region_below (by kernel_rfl) (by kernel_rfl) ?_
  repeat (go_big_quiet_step (first | (go_at_call 45; exact below_of (kinds_any _)) | (go_at_call 52; exact below_of (f52 x 1 i a b _))))
  refine wpQuiet_nil ?_
  rintro w5 ⟨s, rfl⟩
  have B8 := bnext B5 s.2
  have M8 := M5.below s.2
  have X8 := X5.below s.2
  generalize s.1 = V8 at *
  clear x0 x1 x2 x3 m0 m1 M5 X5 B5
  go_upto_region 9 with fail
  have x0 := bel_cell (X8.cell 0 rfl)
  have x1 := bel_cell (X8.cell 1 rfl)
  have x2 := bel_cell (X8.cell 2 rfl)
  have x3 := bel_cell (X8.cell 3 rfl)
  have m0 := bel_cell (M8.top.cell 0 rfl)
  have m1 := bel_cell (HC.out _ M8)
  refine tail_below 8 (by kernel_rfl) (by kernel_rfl) ?_
  simp only [List.take_succ_cons, List.take_zero, List.drop_succ_cons, List.drop_zero]
  repeat (go_big_quiet_step (fail))
  refine wpQuiet_nil ?_
  rintro w5 ⟨s, rfl⟩
  have B9 := bnext B8 s.2
  have M9 := M8.below s.2
  have X9 := X8.below s.2
  generalize s.1 = V9 at *
  clear x0 x1 x2 x3 m0 m1 M8 X8 B8
  have k1 := HC.out _ M9
  have k2 := M9.ref.words.frozenAt i
  go_wp2_with fail
  go_ret2
  exact ⟨rfl, HS.out _ M9 _ (by omega), (Ch.of_below B9).setCell (own2_1 rfl) _⟩
set_option maxHeartbeats 1000000 in
theorem g_in2 (p base : Nat) (v1 v2 : Value) (W B : List Int) (i : Nat) (a b : Int) (w : World) (M : GM w p base v1 v2 W B) (h : i < W.length) (a0 : 0 ≤ a) (a1 : a < 18446744073709551616) (b0 : 0 ≤ b) (b1 : b < 18446744073709551616) :
    Calls Try.prog 15 #[.pointer (some ⟨p, 0, none⟩), .agg #[.int .u8 2, .int .i64 i, .int .u64 a, .int .u64 b]] w fun e w' => e = .returned (.tuple #[.int .u64 (0), .bool true]) ∧ GM w' p base v1 v2 (W.set i (a)) B ∧ Ch (own2 v1 v2) w w' := by
  have hv := getD_wf M.wwf i h
  have hwx : (W.map (Value.int .u64))[i]? = some (.int .u64 (W.getD i 0)) := by simp [List.getD, h]
  obtain ⟨g, c, rfl, hg, hg'⟩ := own_open M.ref.words (by omega)
  obtain ⟨e2, c2, rfl⟩ := own_shape M.ref.bytes
  have HS := Lib.hid (fun (w : World) (M : GM w p base (.slice (some ⟨g, 0, none⟩) W.length c) (.slice e2 B.length c2) W B) v hv => GM.setW M i v hv)
  have HL := Lib.hid h
  have hn := M.wlen
  have i0 : (0 : Int) ≤ (i : Int) := by omega
  have i1 : (i : Int) < (W.length : Int) := by omega
  have z1 : decide ((i : Int) < 0) = false := decide_eq_false (by omega)
  have z2 : decide ((W.length : Int) ≤ (i : Int)) = false := decide_eq_false (by omega)
  have z3 : decide ((i : Int) ≥ (W.length : Int)) = false := decide_eq_false (by omega)
  obtain ⟨x, hx⟩ : ∃ x, x = W.getD i 0 := ⟨_, rfl⟩
  rw [← hx] at hv hwx

  have HX := Lib.hid hx
  clear hx
  have HC := Lib.hid (fun (s : World) (M : GM s p base (.slice (some ⟨g, 0, none⟩) W.length c) (.slice e2 B.length c2) W B) => (M.ref.words.cellAt i (by omega)).trans hwx)
  clear hwx
  obtain ⟨y0', y1'⟩ := hv
  have ix : ∀ w, (Instr.index 82 (.agg #[.nilFunc, .func (.func 52) #[] #[], .func (.func 53) #[] #[], .func (.func 54) #[] #[], .func (.func 55) #[] #[]]) (.int .u8 2)).run Try.prog w = .ok (.func (.func 53) #[] #[]) w := fun _ => by kernel_rfl
  go_enter Try.func15, Try.ntmps15
  go_upto_region 6 with fail
  generalize hV : World.alloc w _ = V
  have hB : Below w.heap.size w V := hV ▸ (Below.refl _ w).alloc (Nat.le_refl _) _
  have X : At V w.heap.size #[.int .u8 2, .int .i64 i, .int .u64 a, .int .u64 b] 30 := hV ▸ At.last w _ 30
  have Me := M.below hB
  clear hV M
  have x0 := bel_cell (X.cell 0 rfl)
  have x1 := bel_cell (X.cell 1 rfl)
  have x2 := bel_cell (X.cell 2 rfl)
  have x3 := bel_cell (X.cell 3 rfl)
  have Cn := Lib.hid (fun s : Bel V => below_same (w := V) (s := s) (words_any s.1 p _ W.length c _ (Me.top.below s.2)))
  refine region_below (by kernel_rfl) (by kernel_rfl) ?_
  repeat (go_big_quiet_step ((go_at_call 20; exact Cn.out _)))
  refine wpQuiet_nil ?_
  rintro w5 ⟨s, rfl⟩
  have B5 := bnext hB s.2
  have M5 := Me.below s.2
  have X5 := X.below s.2
  generalize s.1 = V5 at *
  clear x0 x1 x2 x3 Cn Me X hB
  go_upto_region 8 with fail
  have x0 := bel_cell (X5.cell 0 rfl)
  have x1 := bel_cell (X5.cell 1 rfl)
  have x2 := bel_cell (X5.cell 2 rfl)
  have x3 := bel_cell (X5.cell 3 rfl)
  have m0 := bel_cell (M5.top.cell 0 rfl)
  have m1 := bel_cell (HC.out _ M5)
  refine region_below (by kernel_rfl) (by kernel_rfl) ?_
  repeat (go_big_quiet_step (first | (go_at_call 45; exact below_of (kinds_any _)) | (go_at_call 53; exact below_of (f53 x 2 i a b _))))
  refine wpQuiet_nil ?_
  rintro w5 ⟨s, rfl⟩
  have B8 := bnext B5 s.2
  have M8 := M5.below s.2
  have X8 := X5.below s.2
  generalize s.1 = V8 at *
  clear x0 x1 x2 x3 m0 m1 M5 X5 B5
  go_upto_region 9 with fail
  have x0 := bel_cell (X8.cell 0 rfl)
  have x1 := bel_cell (X8.cell 1 rfl)
  have x2 := bel_cell (X8.cell 2 rfl)
  have x3 := bel_cell (X8.cell 3 rfl)
  have m0 := bel_cell (M8.top.cell 0 rfl)
  have m1 := bel_cell (HC.out _ M8)
  refine tail_below 8 (by kernel_rfl) (by kernel_rfl) ?_
  simp only [List.take_succ_cons, List.take_zero, List.drop_succ_cons, List.drop_zero]
  repeat (go_big_quiet_step (fail))
  refine wpQuiet_nil ?_
  rintro w5 ⟨s, rfl⟩
  have B9 := bnext B8 s.2
  have M9 := M8.below s.2
  have X9 := X8.below s.2
  generalize s.1 = V9 at *
  clear x0 x1 x2 x3 m0 m1 M8 X8 B8
  have k1 := HC.out _ M9
  have k2 := M9.ref.words.frozenAt i
  go_wp2_with fail
  go_ret2
  exact ⟨rfl, HS.out _ M9 _ (by omega), (Ch.of_below B9).setCell (own2_1 rfl) _⟩
set_option maxHeartbeats 1000000 in
theorem g_in3 (p base : Nat) (v1 v2 : Value) (W B : List Int) (i : Nat) (a b : Int) (w : World) (M : GM w p base v1 v2 W B) (h : i < W.length) (a0 : 0 ≤ a) (a1 : a < 18446744073709551616) (b0 : 0 ≤ b) (b1 : b < 18446744073709551616) :
    Calls Try.prog 15 #[.pointer (some ⟨p, 0, none⟩), .agg #[.int .u8 3, .int .i64 i, .int .u64 a, .int .u64 b]] w fun e w' => e = .returned (.tuple #[.int .u64 (if W.getD i 0 = a then 1 else 0), .bool true]) ∧ GM w' p base v1 v2 (W.set i (if W.getD i 0 = a then b else W.getD i 0)) B ∧ Ch (own2 v1 v2) w w' := by
  have hv := getD_wf M.wwf i h
  have hwx : (W.map (Value.int .u64))[i]? = some (.int .u64 (W.getD i 0)) := by simp [List.getD, h]
  obtain ⟨g, c, rfl, hg, hg'⟩ := own_open M.ref.words (by omega)
  obtain ⟨e2, c2, rfl⟩ := own_shape M.ref.bytes
  have HS := Lib.hid (fun (w : World) (M : GM w p base (.slice (some ⟨g, 0, none⟩) W.length c) (.slice e2 B.length c2) W B) v hv => GM.setW M i v hv)
  have HL := Lib.hid h
  have hn := M.wlen
  have i0 : (0 : Int) ≤ (i : Int) := by omega
  have i1 : (i : Int) < (W.length : Int) := by omega
  have z1 : decide ((i : Int) < 0) = false := decide_eq_false (by omega)
  have z2 : decide ((W.length : Int) ≤ (i : Int)) = false := decide_eq_false (by omega)
  have z3 : decide ((i : Int) ≥ (W.length : Int)) = false := decide_eq_false (by omega)
  obtain ⟨x, hx⟩ : ∃ x, x = W.getD i 0 := ⟨_, rfl⟩
  rw [← hx] at hv hwx
  rw [← hx]
  have HX := Lib.hid hx
  clear hx
  have HC := Lib.hid (fun (s : World) (M : GM s p base (.slice (some ⟨g, 0, none⟩) W.length c) (.slice e2 B.length c2) W B) => (M.ref.words.cellAt i (by omega)).trans hwx)
  clear hwx
  obtain ⟨y0', y1'⟩ := hv
  have Cf := Lib.hid (fun w => f54 x 3 i a b w)
  have hy : 0 ≤ (if x = a then b else x) ∧ (if x = a then b else x) < 18446744073709551616 := by split <;> omega
  generalize (if x = a then b else x) = y at *
  generalize (if x = a then (1 : Int) else 0) = z at *
  obtain ⟨y0, y1⟩ := hy
  have ix : ∀ w, (Instr.index 82 (.agg #[.nilFunc, .func (.func 52) #[] #[], .func (.func 53) #[] #[], .func (.func 54) #[] #[], .func (.func 55) #[] #[]]) (.int .u8 3)).run Try.prog w = .ok (.func (.func 54) #[] #[]) w := fun _ => by kernel_rfl
  go_enter Try.func15, Try.ntmps15
  go_upto_region 6 with fail
  generalize hV : World.alloc w _ = V
  have hB : Below w.heap.size w V := hV ▸ (Below.refl _ w).alloc (Nat.le_refl _) _
  have X : At V w.heap.size #[.int .u8 3, .int .i64 i, .int .u64 a, .int .u64 b] 30 := hV ▸ At.last w _ 30
  have Me := M.below hB
  clear hV M
  have x0 := bel_cell (X.cell 0 rfl)
  have x1 := bel_cell (X.cell 1 rfl)
  have x2 := bel_cell (X.cell 2 rfl)
  have x3 := bel_cell (X.cell 3 rfl)
  have Cn := Lib.hid (fun s : Bel V => below_same (w := V) (s := s) (words_any s.1 p _ W.length c _ (Me.top.below s.2)))
  refine region_below (by kernel_rfl) (by kernel_rfl) ?_
  repeat (go_big_quiet_step ((go_at_call 20; exact Cn.out _)))
  refine wpQuiet_nil ?_
  rintro w5 ⟨s, rfl⟩
  have B5 := bnext hB s.2
  have M5 := Me.below s.2
  have X5 := X.below s.2
  generalize s.1 = V5 at *
  clear x0 x1 x2 x3 Cn Me X hB
  go_upto_region 8 with fail
  have x0 := bel_cell (X5.cell 0 rfl)
  have x1 := bel_cell (X5.cell 1 rfl)
  have x2 := bel_cell (X5.cell 2 rfl)
  have x3 := bel_cell (X5.cell 3 rfl)
  have m0 := bel_cell (M5.top.cell 0 rfl)
  have m1 := bel_cell (HC.out _ M5)
  refine region_below (by kernel_rfl) (by kernel_rfl) ?_
  repeat (go_big_quiet_step (first | (go_at_call 45; exact below_of (kinds_any _)) | (go_at_call 54; exact below_of (Cf.out _))))
  refine wpQuiet_nil ?_
  rintro w5 ⟨s, rfl⟩
  have B8 := bnext B5 s.2
  have M8 := M5.below s.2
  have X8 := X5.below s.2
  generalize s.1 = V8 at *
  clear x0 x1 x2 x3 m0 m1 M5 X5 B5
  go_upto_region 9 with fail
  have x0 := bel_cell (X8.cell 0 rfl)
  have x1 := bel_cell (X8.cell 1 rfl)
  have x2 := bel_cell (X8.cell 2 rfl)
  have x3 := bel_cell (X8.cell 3 rfl)
  have m0 := bel_cell (M8.top.cell 0 rfl)
  have m1 := bel_cell (HC.out _ M8)
  refine tail_below 8 (by kernel_rfl) (by kernel_rfl) ?_
  simp only [List.take_succ_cons, List.take_zero, List.drop_succ_cons, List.drop_zero]
  repeat (go_big_quiet_step (fail))
  refine wpQuiet_nil ?_
  rintro w5 ⟨s, rfl⟩
  have B9 := bnext B8 s.2
  have M9 := M8.below s.2
  have X9 := X8.below s.2
  generalize s.1 = V9 at *
  clear x0 x1 x2 x3 m0 m1 M8 X8 B8
  have k1 := HC.out _ M9
  have k2 := M9.ref.words.frozenAt i
  go_wp2_with fail
  go_ret2
  exact ⟨rfl, HS.out _ M9 _ (by omega), (Ch.of_below B9).setCell (own2_1 rfl) _⟩
set_option maxHeartbeats 1000000 in
theorem g_in4 (p base : Nat) (v1 v2 : Value) (W B : List Int) (i : Nat) (a b : Int) (w : World) (M : GM w p base v1 v2 W B) (h : i < W.length) (a0 : 0 ≤ a) (a1 : a < 18446744073709551616) (b0 : 0 ≤ b) (b1 : b < 18446744073709551616) :
    Calls Try.prog 15 #[.pointer (some ⟨p, 0, none⟩), .agg #[.int .u8 4, .int .i64 i, .int .u64 a, .int .u64 b]] w fun e w' => e = .returned (.tuple #[.int .u64 (W.getD i 0), .bool true]) ∧ GM w' p base v1 v2 (W.set i ((W.getD i 0 + a) % 18446744073709551616)) B ∧ Ch (own2 v1 v2) w w' := by
  have hv := getD_wf M.wwf i h
  have hwx : (W.map (Value.int .u64))[i]? = some (.int .u64 (W.getD i 0)) := by simp [List.getD, h]
  obtain ⟨g, c, rfl, hg, hg'⟩ := own_open M.ref.words (by omega)
  obtain ⟨e2, c2, rfl⟩ := own_shape M.ref.bytes
  have HS := Lib.hid (fun (w : World) (M : GM w p base (.slice (some ⟨g, 0, none⟩) W.length c) (.slice e2 B.length c2) W B) v hv => GM.setW M i v hv)
  have HL := Lib.hid h
  have hn := M.wlen
  have i0 : (0 : Int) ≤ (i : Int) := by omega
  have i1 : (i : Int) < (W.length : Int) := by omega
  have z1 : decide ((i : Int) < 0) = false := decide_eq_false (by omega)
  have z2 : decide ((W.length : Int) ≤ (i : Int)) = false := decide_eq_false (by omega)
  have z3 : decide ((i : Int) ≥ (W.length : Int)) = false := decide_eq_false (by omega)
  obtain ⟨x, hx⟩ : ∃ x, x = W.getD i 0 := ⟨_, rfl⟩
  rw [← hx] at hv hwx
  rw [← hx]
  have HX := Lib.hid hx
  clear hx
  have HC := Lib.hid (fun (s : World) (M : GM s p base (.slice (some ⟨g, 0, none⟩) W.length c) (.slice e2 B.length c2) W B) => (M.ref.words.cellAt i (by omega)).trans hwx)
  clear hwx
  obtain ⟨y0', y1'⟩ := hv
  have ix : ∀ w, (Instr.index 82 (.agg #[.nilFunc, .func (.func 52) #[] #[], .func (.func 53) #[] #[], .func (.func 54) #[] #[], .func (.func 55) #[] #[]]) (.int .u8 4)).run Try.prog w = .ok (.func (.func 55) #[] #[]) w := fun _ => by kernel_rfl
  go_enter Try.func15, Try.ntmps15
  go_upto_region 6 with fail
  generalize hV : World.alloc w _ = V
  have hB : Below w.heap.size w V := hV ▸ (Below.refl _ w).alloc (Nat.le_refl _) _
  have X : At V w.heap.size #[.int .u8 4, .int .i64 i, .int .u64 a, .int .u64 b] 30 := hV ▸ At.last w _ 30
  have Me := M.below hB
  clear hV M
  have x0 := bel_cell (X.cell 0 rfl)
  have x1 := bel_cell (X.cell 1 rfl)
  have x2 := bel_cell (X.cell 2 rfl)
  have x3 := bel_cell (X.cell 3 rfl)
  have Cn := Lib.hid (fun s : Bel V => below_same (w := V) (s := s) (words_any s.1 p _ W.length c _ (Me.top.below s.2)))
  refine region_below (by kernel_rfl) (by kernel_rfl) ?_
  repeat (go_big_quiet_step ((go_at_call 20; exact Cn.out _)))
  refine wpQuiet_nil ?_
  rintro w5 ⟨s, rfl⟩
  have B5 := bnext hB s.2
  have M5 := Me.below s.2
  have X5 := X.below s.2
  generalize s.1 = V5 at *
  clear x0 x1 x2 x3 Cn Me X hB
  go_upto_region 8 with fail
  have x0 := bel_cell (X5.cell 0 rfl)
  have x1 := bel_cell (X5.cell 1 rfl)
  have x2 := bel_cell (X5.cell 2 rfl)
  have x3 := bel_cell (X5.cell 3 rfl)
  have m0 := bel_cell (M5.top.cell 0 rfl)
  have m1 := bel_cell (HC.out _ M5)
  refine region_below (by kernel_rfl) (by kernel_rfl) ?_
  repeat (go_big_quiet_step (first | (go_at_call 45; exact below_of (kinds_any _)) | (go_at_call 55; exact below_of (f55 x 4 i a b _ y0' y1' a0 a1))))
  refine wpQuiet_nil ?_
  rintro w5 ⟨s, rfl⟩
  have B8 := bnext B5 s.2
  have M8 := M5.below s.2
  have X8 := X5.below s.2
  generalize s.1 = V8 at *
  clear x0 x1 x2 x3 m0 m1 M5 X5 B5
  go_upto_region 9 with fail
  have x0 := bel_cell (X8.cell 0 rfl)
  have x1 := bel_cell (X8.cell 1 rfl)
  have x2 := bel_cell (X8.cell 2 rfl)
  have x3 := bel_cell (X8.cell 3 rfl)
  have m0 := bel_cell (M8.top.cell 0 rfl)
  have m1 := bel_cell (HC.out _ M8)
  refine tail_below 8 (by kernel_rfl) (by kernel_rfl) ?_
  simp only [List.take_succ_cons, List.take_zero, List.drop_succ_cons, List.drop_zero]
  repeat (go_big_quiet_step (fail))
  refine wpQuiet_nil ?_
  rintro w5 ⟨s, rfl⟩
  have B9 := bnext B8 s.2
  have M9 := M8.below s.2
  have X9 := X8.below s.2
  generalize s.1 = V9 at *
  clear x0 x1 x2 x3 m0 m1 M8 X8 B8
  have k1 := HC.out _ M9
  have k2 := M9.ref.words.frozenAt i
  go_wp2_with fail
  go_ret2
  exact ⟨rfl, HS.out _ M9 _ (by omega), (Ch.of_below B9).setCell (own2_1 rfl) _⟩
set_option maxHeartbeats 1000000 in
theorem g_in5 (p base : Nat) (v1 v2 : Value) (W B : List Int) (i : Nat) (a b : Int) (w : World) (M : GM w p base v1 v2 W B) (h : i < B.length) (a0 : 0 ≤ a) (a1 : a < 18446744073709551616) (b0 : 0 ≤ b) (b1 : b < 18446744073709551616) :
    Calls Try.prog 15 #[.pointer (some ⟨p, 0, none⟩), .agg #[.int .u8 5, .int .i64 i, .int .u64 a, .int .u64 b]] w fun e w' => e = .returned (.tuple #[.int .u64 (B.getD i 0), .bool true]) ∧ Below w.heap.size w w' := by
  have hv := getD_wf M.bwf i h
  have hwx : (B.map (Value.int .u8))[i]? = some (.int .u8 (B.getD i 0)) := by simp [List.getD, h]
  obtain ⟨e1, c1, rfl⟩ := own_shape M.ref.words
  obtain ⟨g, c, rfl, hg, hg'⟩ := own_open M.ref.bytes (by omega)
  have HS := Lib.hid (fun (w : World) (M : GM w p base (.slice e1 W.length c1) (.slice (some ⟨g, 0, none⟩) B.length c) W B) v hv => GM.setB M i v hv)
  have HL := Lib.hid h
  have hn := M.blen
  have i0 : (0 : Int) ≤ (i : Int) := by omega
  have i1 : (i : Int) < (B.length : Int) := by omega
  have z1 : decide ((i : Int) < 0) = false := decide_eq_false (by omega)
  have z2 : decide ((B.length : Int) ≤ (i : Int)) = false := decide_eq_false (by omega)
  have z3 : decide ((i : Int) ≥ (B.length : Int)) = false := decide_eq_false (by omega)
  obtain ⟨x, hx⟩ : ∃ x, x = B.getD i 0 := ⟨_, rfl⟩
  rw [← hx] at hv hwx
  rw [← hx]
  have HX := Lib.hid hx
  clear hx
  have HC := Lib.hid (fun (s : World) (M : GM s p base (.slice e1 W.length c1) (.slice (some ⟨g, 0, none⟩) B.length c) W B) => (M.ref.bytes.cellAt i (by omega)).trans hwx)
  clear hwx
  obtain ⟨v0, v1⟩ := hv
  have am : 0 ≤ a % 256 ∧ a % 256 < 256 := by omega
  have HA := Lib.hid am
  clear am
  go_enter Try.func15, Try.ntmps15
  go_upto_region 13 with fail
  generalize hV : World.alloc w _ = V
  have hB : Below w.heap.size w V := hV ▸ (Below.refl _ w).alloc (Nat.le_refl _) _
  have X : At V w.heap.size #[.int .u8 5, .int .i64 i, .int .u64 a, .int .u64 b] 30 := hV ▸ At.last w _ 30
  have Me := M.below hB
  clear hV M
  have x0 := bel_cell (X.cell 0 rfl)
  have x1 := bel_cell (X.cell 1 rfl)
  have x2 := bel_cell (X.cell 2 rfl)
  have x3 := bel_cell (X.cell 3 rfl)
  have Cn := Lib.hid (fun s : Bel V => below_same (w := V) (s := s) (bytes_any s.1 p _ B.length c _ (Me.top.below s.2)))
  refine region_below (by kernel_rfl) (by kernel_rfl) ?_
  repeat (go_big_quiet_step ((go_at_call 21; exact Cn.out _)))
  refine wpQuiet_nil ?_
  rintro w5 ⟨s, rfl⟩
  have B5 := bnext hB s.2
  have M5 := Me.below s.2
  have X5 := X.below s.2
  generalize s.1 = V5 at *
  clear x0 x1 x2 x3 Cn Me X hB
  have X8 := X5
  have M8 := M5
  have B8 := B5
  have y0 := X5.cell 0 rfl
  go_upto_region 16 with fail
  clear y0
  have x0 := bel_cell (X8.cell 0 rfl)
  have x1 := bel_cell (X8.cell 1 rfl)
  have x2 := bel_cell (X8.cell 2 rfl)
  have x3 := bel_cell (X8.cell 3 rfl)
  have m0 := bel_cell (M8.top.cell 1 rfl)
  have m1 := bel_cell (HC.out _ M8)
  refine region_below (by kernel_rfl) (by kernel_rfl) ?_
  repeat (go_big_quiet_step (fail))
  refine wpQuiet_nil ?_
  rintro w5 ⟨s, rfl⟩
  go_wp2_with fail
  go_ret2
  exact ⟨rfl, bnext B8 s.2⟩
set_option maxHeartbeats 1000000 in
theorem g_in6 (p base : Nat) (v1 v2 : Value) (W B : List Int) (i : Nat) (a b : Int) (w : World) (M : GM w p base v1 v2 W B) (h : i < B.length) (a0 : 0 ≤ a) (a1 : a < 18446744073709551616) (b0 : 0 ≤ b) (b1 : b < 18446744073709551616) :
    Calls Try.prog 15 #[.pointer (some ⟨p, 0, none⟩), .agg #[.int .u8 6, .int .i64 i, .int .u64 a, .int .u64 b]] w fun e w' => e = .returned (.tuple #[.int .u64 0, .bool true]) ∧ GM w' p base v1 v2 W (B.set i (a % 256)) ∧ Ch (own2 v1 v2) w w' := by
  have hv := getD_wf M.bwf i h
  have hwx : (B.map (Value.int .u8))[i]? = some (.int .u8 (B.getD i 0)) := by simp [List.getD, h]
  obtain ⟨e1, c1, rfl⟩ := own_shape M.ref.words
  obtain ⟨g, c, rfl, hg, hg'⟩ := own_open M.ref.bytes (by omega)
  have HS := Lib.hid (fun (w : World) (M : GM w p base (.slice e1 W.length c1) (.slice (some ⟨g, 0, none⟩) B.length c) W B) v hv => GM.setB M i v hv)
  have HL := Lib.hid h
  have hn := M.blen
  have i0 : (0 : Int) ≤ (i : Int) := by omega
  have i1 : (i : Int) < (B.length : Int) := by omega
  have z1 : decide ((i : Int) < 0) = false := decide_eq_false (by omega)
  have z2 : decide ((B.length : Int) ≤ (i : Int)) = false := decide_eq_false (by omega)
  have z3 : decide ((i : Int) ≥ (B.length : Int)) = false := decide_eq_false (by omega)
  obtain ⟨x, hx⟩ : ∃ x, x = B.getD i 0 := ⟨_, rfl⟩
  rw [← hx] at hv hwx

  have HX := Lib.hid hx
  clear hx
  have HC := Lib.hid (fun (s : World) (M : GM s p base (.slice e1 W.length c1) (.slice (some ⟨g, 0, none⟩) B.length c) W B) => (M.ref.bytes.cellAt i (by omega)).trans hwx)
  clear hwx
  obtain ⟨v0, v1⟩ := hv
  have am : 0 ≤ a % 256 ∧ a % 256 < 256 := by omega
  have HA := Lib.hid am
  clear am
  go_enter Try.func15, Try.ntmps15
  go_upto_region 13 with fail
  generalize hV : World.alloc w _ = V
  have hB : Below w.heap.size w V := hV ▸ (Below.refl _ w).alloc (Nat.le_refl _) _
  have X : At V w.heap.size #[.int .u8 6, .int .i64 i, .int .u64 a, .int .u64 b] 30 := hV ▸ At.last w _ 30
  have Me := M.below hB
  clear hV M
  have x0 := bel_cell (X.cell 0 rfl)
  have x1 := bel_cell (X.cell 1 rfl)
  have x2 := bel_cell (X.cell 2 rfl)
  have x3 := bel_cell (X.cell 3 rfl)
  have Cn := Lib.hid (fun s : Bel V => below_same (w := V) (s := s) (bytes_any s.1 p _ B.length c _ (Me.top.below s.2)))
  refine region_below (by kernel_rfl) (by kernel_rfl) ?_
  repeat (go_big_quiet_step ((go_at_call 21; exact Cn.out _)))
  refine wpQuiet_nil ?_
  rintro w5 ⟨s, rfl⟩
  have B5 := bnext hB s.2
  have M5 := Me.below s.2
  have X5 := X.below s.2
  generalize s.1 = V5 at *
  clear x0 x1 x2 x3 Cn Me X hB
  have X8 := X5
  have M8 := M5
  have B8 := B5
  have y0 := X5.cell 0 rfl
  go_upto_region 17 with fail
  clear y0
  have x0 := bel_cell (X8.cell 0 rfl)
  have x1 := bel_cell (X8.cell 1 rfl)
  have x2 := bel_cell (X8.cell 2 rfl)
  have x3 := bel_cell (X8.cell 3 rfl)
  have m0 := bel_cell (M8.top.cell 1 rfl)
  have m1 := bel_cell (HC.out _ M8)
  refine tail_below 10 (by kernel_rfl) (by kernel_rfl) ?_
  simp only [List.take_succ_cons, List.take_zero, List.drop_succ_cons, List.drop_zero]
  repeat (go_big_quiet_step (fail))
  refine wpQuiet_nil ?_
  rintro w5 ⟨s, rfl⟩
  have B9 := bnext B8 s.2
  have M9 := M8.below s.2
  have X9 := X8.below s.2
  generalize s.1 = V9 at *
  clear x0 x1 x2 x3 m0 m1 M8 X8 B8
  have k1 := HC.out _ M9
  have k2 := M9.ref.bytes.frozenAt i
  go_wp2_with fail
  go_ret2
  exact ⟨rfl, HS.out _ M9 _ HA.out, (Ch.of_below B9).setCell (own2_2 rfl) _⟩

/-- what an access leaves -/
structure GDo (p base : Nat) (v1 v2 : Value) (W B : List Int) (w w' : World) : Prop where
  mem : GM w' p base v1 v2 W B
  ch : Ch (own2 v1 v2) w w'
theorem g_do {p base : Nat} {v1 v2 : Value} {W B : List Int} (k t a b : Int) (w : World) (M : GM w p base v1 v2 W B) (k0 : 0 ≤ k) (k1 : k ≤ 255) (a0 : 0 ≤ a) (a1 : a < 18446744073709551616) (b0 : 0 ≤ b) (b1 : b < 18446744073709551616) :
    Calls Try.prog 15 #[.pointer (some ⟨p, 0, none⟩), .agg #[.int .u8 k, .int .i64 t, .int .u64 a, .int .u64 b]] w fun e w' => e = .returned (.tuple #[.int .u64 (tD W B k t a), .bool (okD W B k t)]) ∧ GDo p base v1 v2 (wD W k t a b) (bD B k t a) w w' := by
  have keep : ∀ {e : Ending} {w' : World}, inW W k t = false → inB B k t = false → (e = .returned (.tuple #[.int .u64 0, .bool false]) ∧ Below w.heap.size w w') →
      e = .returned (.tuple #[.int .u64 (tD W B k t a), .bool (okD W B k t)]) ∧ GDo p base v1 v2 (wD W k t a b) (bD B k t a) w w' := by
    intro e w' h1 h2 ⟨he, hb⟩
    refine ⟨by rw [he]; simp [tD, okD, h1, h2], ?_, Ch.of_below hb⟩
    simp only [wD, bD, h1, h2]
    exact M.below hb
  by_cases hk : k < 1 ∨ 6 < k
  · refine (do_none _ k t a b w k0 k1 hk).mono fun e w' h => keep ?_ ?_ h
    · simp [inW]; omega
    · simp [inB]; omega
  by_cases h4 : k ≤ 4
  · have hb2 : inB B k t = false := by simp [inB]; omega
    by_cases ht : t < 0 ∨ (W.length : Int) ≤ t
    · have hw2 : inW W k t = false := by simp [inW]; omega
      rcases (show k = 1 ∨ k = 2 ∨ k = 3 ∨ k = 4 by omega) with rfl | rfl | rfl | rfl
      · exact (g_out1 p base v1 v2 W B t a b w M ht).mono fun e w' h => keep hw2 hb2 h
      · exact (g_out2 p base v1 v2 W B t a b w M ht).mono fun e w' h => keep hw2 hb2 h
      · exact (g_out3 p base v1 v2 W B t a b w M ht).mono fun e w' h => keep hw2 hb2 h
      · exact (g_out4 p base v1 v2 W B t a b w M ht).mono fun e w' h => keep hw2 hb2 h
    · obtain ⟨i, rfl⟩ : ∃ i : Nat, t = i := ⟨t.toNat, by omega⟩
      have hi : i < W.length := by omega
      have hw1 : inW W k i = true := by simp [inW]; omega
      have e1 : okD W B k i = true := by simp [okD, hw1]
      have e2 : bD B k i a = B := by simp [bD, hb2]
      have e3 : wD W k i a b = W.set i (nowW k (W.getD i 0) a b) := by simp [wD, hw1]
      have e4 : tD W B k i a = toldW k (W.getD i 0) a := by simp [tD, hw1]
      rw [e1, e2, e3, e4]
      rcases (show k = 1 ∨ k = 2 ∨ k = 3 ∨ k = 4 by omega) with rfl | rfl | rfl | rfl
      · exact (g_in1 p base v1 v2 W B i a b w M hi a0 a1 b0 b1).mono fun e w' ⟨he, m, c⟩ => ⟨he, m, c⟩
      · exact (g_in2 p base v1 v2 W B i a b w M hi a0 a1 b0 b1).mono fun e w' ⟨he, m, c⟩ => ⟨he, m, c⟩
      · exact (g_in3 p base v1 v2 W B i a b w M hi a0 a1 b0 b1).mono fun e w' ⟨he, m, c⟩ => ⟨he, m, c⟩
      · exact (g_in4 p base v1 v2 W B i a b w M hi a0 a1 b0 b1).mono fun e w' ⟨he, m, c⟩ => ⟨he, m, c⟩
  · have hw2 : inW W k t = false := by simp [inW]; omega
    by_cases ht : t < 0 ∨ (B.length : Int) ≤ t
    · have hb2 : inB B k t = false := by simp [inB]; omega
      rcases (show k = 5 ∨ k = 6 by omega) with rfl | rfl
      · exact (g_out5 p base v1 v2 W B t a b w M ht).mono fun e w' h => keep hw2 hb2 h
      · exact (g_out6 p base v1 v2 W B t a b w M ht).mono fun e w' h => keep hw2 hb2 h
    · obtain ⟨i, rfl⟩ : ∃ i : Nat, t = i := ⟨t.toNat, by omega⟩
      have hi : i < B.length := by omega
      have hb1 : inB B k i = true := by simp [inB]; omega
      have e1 : okD W B k i = true := by simp [okD, hb1]
      have e3 : wD W k i a b = W := by simp [wD, hw2]
      rw [e1, e3]
      rcases (show k = 5 ∨ k = 6 by omega) with rfl | rfl
      · have e2 : bD B 5 i a = B := by simp [bD]
        have e4 : tD W B 5 i a = B.getD i 0 := by simp [tD, hw2, hb1]
        rw [e2, e4]
        exact (g_in5 p base v1 v2 W B i a b w M hi a0 a1 b0 b1).mono fun e w' ⟨he, hb⟩ => ⟨he, M.below hb, Ch.of_below hb⟩
      · have e2 : bD B 6 i a = B.set i (a % 256) := by simp [bD, hb1]
        have e4 : tD W B 6 i a = 0 := by simp [tD, hw2]
        rw [e2, e4]
        exact (g_in6 p base v1 v2 W B i a b w M hi a0 a1 b0 b1).mono fun e w' ⟨he, m, c⟩ => ⟨he, m, c⟩
end Go.Proofs.Ytmdagppeeejikaa
