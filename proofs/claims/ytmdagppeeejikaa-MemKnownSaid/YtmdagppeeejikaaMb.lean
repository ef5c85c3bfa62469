/- (*mem.Memory).Do by its numbers. Condition: the numbers fit their kinds, the words and bytes lie in memory of their own. -/
import Derived.Test.YtmdagppeeejikaaMa
namespace Go.Proofs.Ytmdagppeeejikaa
open Go.RowKit
set_option linter.unusedVariables false

def u64s (l : List Int) : Array Value := (l.map (Value.int .u64)).toArray
def u8s (l : List Int) : Array Value := (l.map (Value.int .u8)).toArray
theorem u64s_get (l : List Int) (i : Nat) (h : i < l.length) : (u64s l)[i]? = some (.int .u64 (l.getD i 0)) := by simp [u64s, List.getD, h]
theorem u8s_get (l : List Int) (i : Nat) (h : i < l.length) : (u8s l)[i]? = some (.int .u8 (l.getD i 0)) := by simp [u8s, List.getD, h]
theorem u64s_set (l : List Int) (i : Nat) (v : Int) : (u64s l).setIfInBounds i (.int .u64 v) = u64s (l.set i v) := by simp [u64s, List.map_set]
theorem u8s_set (l : List Int) (i : Nat) (v : Int) : (u8s l).setIfInBounds i (.int .u8 v) = u8s (l.set i v) := by simp [u8s, List.map_set]

/-- block p is a memory, whose words and bytes are the blocks bw and bb -/
structure IsMem (w : World) (p bw bb : Nat) (W B : List Int) : Prop where
  top : At w p #[.slice (some ⟨bw, 0, none⟩) W.length W.length, .slice (some ⟨bb, 0, none⟩) B.length B.length] 78
  words : At w bw (u64s W) 22
  bytes : At w bb (u8s B) 5
  wlen : W.length ≤ 2097152
  blen : B.length ≤ 1048576
  wwf : ∀ x ∈ W, 0 ≤ x ∧ x < 18446744073709551616
  bwf : ∀ x ∈ B, 0 ≤ x ∧ x < 256
/-- w' is w with more memory, and other words, or bytes -/
structure Wr (bw bb : Nat) (w w' : World) : Prop where
  os : w'.os = w.os
  tape : w'.tape = w.tape
  output : w'.output = w.output
  size : w.heap.size ≤ w'.heap.size
  block : ∀ k, k < w.heap.size → k ≠ bw → k ≠ bb → w'.heap[k]? = w.heap[k]?
theorem Wr.of_below {bw bb : Nat} {w w' : World} (h : Below w.heap.size w w') : Wr bw bb w w' := ⟨h.os, h.tape, h.output, h.size, fun k hk _ _ => h.block k hk⟩
theorem Wr.trans {bw bb : Nat} {a b c : World} (h : Wr bw bb a b) (k : Wr bw bb b c) : Wr bw bb a c :=
  ⟨k.os.trans h.os, k.tape.trans h.tape, k.output.trans h.output, Nat.le_trans h.size k.size, fun i hi h1 h2 => (k.block i (Nat.lt_of_lt_of_le hi h.size) h1 h2).trans (h.block i hi h1 h2)⟩
theorem Wr.below {bw bb B : Nat} {a w w' : World} (hb : Below B a w) (h : Wr bw bb w w') (hB : B ≤ w.heap.size) (h1 : B ≤ bw) (h2 : B ≤ bb) : Below B a w' :=
  hb.trans ⟨h.os, h.tape, h.output, h.size, fun k hk => h.block k (by omega) (by omega) (by omega)⟩
theorem Wr.setCell {bw bb : Nat} {a w : World} (h : Wr bw bb a w) {q : Addr} (hq : q.block = bw ∨ q.block = bb) (v : Value) : Wr bw bb a (w.setCell q v) :=
  ⟨h.os, h.tape, h.output, Nat.le_trans h.size (by simp), fun k hk h1 h2 => (heap_setCell_other w q k v (by rcases hq with e | e <;> rw [e] <;> assumption)).trans (h.block k hk h1 h2)⟩
theorem At.wr {w w' : World} {b bw bb : Nat} {cs : Array Value} {t : TypeId} (h : At w b cs t) (hw : Wr bw bb w w') (h1 : b ≠ bw) (h2 : b ≠ bb) : At w' b cs t := (hw.block b h.lt h1 h2).trans h
theorem At.ne {w : World} {b b' : Nat} {cs cs' : Array Value} {t t' : TypeId} (h : At w b cs t) (h' : At w b' cs' t') (hne : t ≠ t') : b ≠ b' := by
  intro e
  subst e
  have := Option.some.inj (h.symm.trans h')
  injection this with _ e2
  exact hne e2
theorem IsMem.below {w w' : World} {p bw bb : Nat} {W B : List Int} (h : IsMem w p bw bb W B) (hb : Below w.heap.size w w') : IsMem w' p bw bb W B :=
  ⟨h.top.below hb, h.words.below hb, h.bytes.below hb, h.wlen, h.blen, h.wwf, h.bwf⟩
theorem IsMem.ne1 {w : World} {p bw bb : Nat} {W B : List Int} (h : IsMem w p bw bb W B) : p ≠ bw := h.top.ne h.words (by decide)
theorem IsMem.ne2 {w : World} {p bw bb : Nat} {W B : List Int} (h : IsMem w p bw bb W B) : p ≠ bb := h.top.ne h.bytes (by decide)
theorem IsMem.ne3 {w : World} {p bw bb : Nat} {W B : List Int} (h : IsMem w p bw bb W B) : bw ≠ bb := h.words.ne h.bytes (by decide)
theorem getD_wf {l : List Int} {m : Int} (h : ∀ x ∈ l, 0 ≤ x ∧ x < m) (i : Nat) (hi : i < l.length) : 0 ≤ l.getD i 0 ∧ l.getD i 0 < m := by
  have : l.getD i 0 ∈ l := by simp [List.getD, hi]
  exact h _ this
theorem set_wf {l : List Int} {m : Int} (h : ∀ x ∈ l, 0 ≤ x ∧ x < m) (i : Nat) (v : Int) (hv : 0 ≤ v ∧ v < m) : ∀ x ∈ l.set i v, 0 ≤ x ∧ x < m := by
  intro x hx
  rcases List.mem_or_eq_of_mem_set hx with h1 | h1
  · exact h x h1
  · exact h1 ▸ hv
theorem IsMem.setW {w : World} {p bw bb : Nat} {W B : List Int} (h : IsMem w p bw bb W B) (i : Nat) (v : Int) (hv : 0 ≤ v ∧ v < 18446744073709551616) : IsMem (w.setCell ⟨bw, i, none⟩ (.int .u64 v)) p bw bb (W.set i v) B := by
  refine ⟨?_, ?_, ?_, by simpa using h.wlen, h.blen, set_wf h.wwf i v hv, h.bwf⟩
  · have e : (W.set i v).length = W.length := by simp
    rw [e]
    unfold At
    rw [heap_setCell_other _ _ _ _ h.ne1]
    exact h.top
  · have := heap_setCell_same w bw i (u64s W) 22 (.int .u64 v) h.words
    rw [u64s_set] at this
    exact this
  · unfold At
    rw [heap_setCell_other _ _ _ _ (Ne.symm h.ne3)]
    exact h.bytes
theorem IsMem.setB {w : World} {p bw bb : Nat} {W B : List Int} (h : IsMem w p bw bb W B) (i : Nat) (v : Int) (hv : 0 ≤ v ∧ v < 256) : IsMem (w.setCell ⟨bb, i, none⟩ (.int .u8 v)) p bw bb W (B.set i v) := by
  refine ⟨?_, ?_, ?_, h.wlen, by simpa using h.blen, h.wwf, set_wf h.bwf i v hv⟩
  · have e : (B.set i v).length = B.length := by simp
    rw [e]
    unfold At
    rw [heap_setCell_other _ _ _ _ h.ne2]
    exact h.top
  · unfold At
    rw [heap_setCell_other _ _ _ _ h.ne3]
    exact h.words
  · have := heap_setCell_same w bb i (u8s B) 5 (.int .u8 v) h.bytes
    rw [u8s_set] at this
    exact this

set_option maxHeartbeats 1000000 in
theorem do_out1 (p bw bb : Nat) (W B : List Int) (t a b : Int) (w : World) (M : IsMem w p bw bb W B) (h : t < 0 ∨ (W.length : Int) ≤ t) :
    Calls Try.prog 15 #[.pointer (some ⟨p, 0, none⟩), .agg #[.int .u8 1, .int .i64 t, .int .u64 a, .int .u64 b]] w fun e w' => e = .returned (.tuple #[.int .u64 0, .bool false]) ∧ Below w.heap.size w w' := by
  go_enter Try.func15, Try.ntmps15
  go_upto_region 6 with fail
  generalize hV : World.alloc w _ = V
  have hB : Below w.heap.size w V := hV ▸ (Below.refl _ w).alloc (Nat.le_refl _) _
  have X : At V w.heap.size #[.int .u8 1, .int .i64 t, .int .u64 a, .int .u64 b] 30 := hV ▸ At.last w _ 30
  have Me := M.below hB
  clear hV M
  have x0 := bel_cell (X.cell 0 rfl)
  have x1 := bel_cell (X.cell 1 rfl)
  have x2 := bel_cell (X.cell 2 rfl)
  have x3 := bel_cell (X.cell 3 rfl)
  have Cn := Lib.hid (fun s : Bel V => below_same (w := V) (s := s) (words_any s.1 p _ W.length W.length _ (Me.top.below s.2)))
  clear Me X
  by_cases ht : t < 0
  · have z1 : decide (t < 0) = true := decide_eq_true ht
    clear h
    refine region_below (by kernel_rfl) (by kernel_rfl) ?_
    repeat (go_big_quiet_step ((go_at_call 20; exact Cn.out _)))
    refine wpQuiet_nil ?_
    rintro w5 ⟨s, rfl⟩
    go_wp2_with fail
    go_ret2
    exact ⟨rfl, bnext hB s.2⟩
  · have h2 : (W.length : Int) ≤ t := by omega
    have z1 : decide (t < 0) = false := decide_eq_false ht
    have z2 : decide ((W.length : Int) ≤ t) = true := decide_eq_true h2
    have z3 : decide (t ≥ (W.length : Int)) = true := decide_eq_true h2
    clear h
    refine region_below (by kernel_rfl) (by kernel_rfl) ?_
    repeat (go_big_quiet_step ((go_at_call 20; exact Cn.out _)))
    refine wpQuiet_nil ?_
    rintro w5 ⟨s, rfl⟩
    go_wp2_with fail
    go_ret2
    exact ⟨rfl, bnext hB s.2⟩
set_option maxHeartbeats 1000000 in
theorem do_out2 (p bw bb : Nat) (W B : List Int) (t a b : Int) (w : World) (M : IsMem w p bw bb W B) (h : t < 0 ∨ (W.length : Int) ≤ t) :
    Calls Try.prog 15 #[.pointer (some ⟨p, 0, none⟩), .agg #[.int .u8 2, .int .i64 t, .int .u64 a, .int .u64 b]] w fun e w' => e = .returned (.tuple #[.int .u64 0, .bool false]) ∧ Below w.heap.size w w' := by
  go_enter Try.func15, Try.ntmps15
  go_upto_region 6 with fail
  generalize hV : World.alloc w _ = V
  have hB : Below w.heap.size w V := hV ▸ (Below.refl _ w).alloc (Nat.le_refl _) _
  have X : At V w.heap.size #[.int .u8 2, .int .i64 t, .int .u64 a, .int .u64 b] 30 := hV ▸ At.last w _ 30
  have Me := M.below hB
  clear hV M
  have x0 := bel_cell (X.cell 0 rfl)
  have x1 := bel_cell (X.cell 1 rfl)
  have x2 := bel_cell (X.cell 2 rfl)
  have x3 := bel_cell (X.cell 3 rfl)
  have Cn := Lib.hid (fun s : Bel V => below_same (w := V) (s := s) (words_any s.1 p _ W.length W.length _ (Me.top.below s.2)))
  clear Me X
  by_cases ht : t < 0
  · have z1 : decide (t < 0) = true := decide_eq_true ht
    clear h
    refine region_below (by kernel_rfl) (by kernel_rfl) ?_
    repeat (go_big_quiet_step ((go_at_call 20; exact Cn.out _)))
    refine wpQuiet_nil ?_
    rintro w5 ⟨s, rfl⟩
    go_wp2_with fail
    go_ret2
    exact ⟨rfl, bnext hB s.2⟩
  · have h2 : (W.length : Int) ≤ t := by omega
    have z1 : decide (t < 0) = false := decide_eq_false ht
    have z2 : decide ((W.length : Int) ≤ t) = true := decide_eq_true h2
    have z3 : decide (t ≥ (W.length : Int)) = true := decide_eq_true h2
    clear h
    refine region_below (by kernel_rfl) (by kernel_rfl) ?_
    repeat (go_big_quiet_step ((go_at_call 20; exact Cn.out _)))
    refine wpQuiet_nil ?_
    rintro w5 ⟨s, rfl⟩
    go_wp2_with fail
    go_ret2
    exact ⟨rfl, bnext hB s.2⟩
set_option maxHeartbeats 1000000 in
theorem do_out3 (p bw bb : Nat) (W B : List Int) (t a b : Int) (w : World) (M : IsMem w p bw bb W B) (h : t < 0 ∨ (W.length : Int) ≤ t) :
    Calls Try.prog 15 #[.pointer (some ⟨p, 0, none⟩), .agg #[.int .u8 3, .int .i64 t, .int .u64 a, .int .u64 b]] w fun e w' => e = .returned (.tuple #[.int .u64 0, .bool false]) ∧ Below w.heap.size w w' := by
  go_enter Try.func15, Try.ntmps15
  go_upto_region 6 with fail
  generalize hV : World.alloc w _ = V
  have hB : Below w.heap.size w V := hV ▸ (Below.refl _ w).alloc (Nat.le_refl _) _
  have X : At V w.heap.size #[.int .u8 3, .int .i64 t, .int .u64 a, .int .u64 b] 30 := hV ▸ At.last w _ 30
  have Me := M.below hB
  clear hV M
  have x0 := bel_cell (X.cell 0 rfl)
  have x1 := bel_cell (X.cell 1 rfl)
  have x2 := bel_cell (X.cell 2 rfl)
  have x3 := bel_cell (X.cell 3 rfl)
  have Cn := Lib.hid (fun s : Bel V => below_same (w := V) (s := s) (words_any s.1 p _ W.length W.length _ (Me.top.below s.2)))
  clear Me X
  by_cases ht : t < 0
  · have z1 : decide (t < 0) = true := decide_eq_true ht
    clear h
    refine region_below (by kernel_rfl) (by kernel_rfl) ?_
    repeat (go_big_quiet_step ((go_at_call 20; exact Cn.out _)))
    refine wpQuiet_nil ?_
    rintro w5 ⟨s, rfl⟩
    go_wp2_with fail
    go_ret2
    exact ⟨rfl, bnext hB s.2⟩
  · have h2 : (W.length : Int) ≤ t := by omega
    have z1 : decide (t < 0) = false := decide_eq_false ht
    have z2 : decide ((W.length : Int) ≤ t) = true := decide_eq_true h2
    have z3 : decide (t ≥ (W.length : Int)) = true := decide_eq_true h2
    clear h
    refine region_below (by kernel_rfl) (by kernel_rfl) ?_
    repeat (go_big_quiet_step ((go_at_call 20; exact Cn.out _)))
    refine wpQuiet_nil ?_
    rintro w5 ⟨s, rfl⟩
    go_wp2_with fail
    go_ret2
    exact ⟨rfl, bnext hB s.2⟩
set_option maxHeartbeats 1000000 in
theorem do_out4 (p bw bb : Nat) (W B : List Int) (t a b : Int) (w : World) (M : IsMem w p bw bb W B) (h : t < 0 ∨ (W.length : Int) ≤ t) :
    Calls Try.prog 15 #[.pointer (some ⟨p, 0, none⟩), .agg #[.int .u8 4, .int .i64 t, .int .u64 a, .int .u64 b]] w fun e w' => e = .returned (.tuple #[.int .u64 0, .bool false]) ∧ Below w.heap.size w w' := by
  go_enter Try.func15, Try.ntmps15
  go_upto_region 6 with fail
  generalize hV : World.alloc w _ = V
  have hB : Below w.heap.size w V := hV ▸ (Below.refl _ w).alloc (Nat.le_refl _) _
  have X : At V w.heap.size #[.int .u8 4, .int .i64 t, .int .u64 a, .int .u64 b] 30 := hV ▸ At.last w _ 30
  have Me := M.below hB
  clear hV M
  have x0 := bel_cell (X.cell 0 rfl)
  have x1 := bel_cell (X.cell 1 rfl)
  have x2 := bel_cell (X.cell 2 rfl)
  have x3 := bel_cell (X.cell 3 rfl)
  have Cn := Lib.hid (fun s : Bel V => below_same (w := V) (s := s) (words_any s.1 p _ W.length W.length _ (Me.top.below s.2)))
  clear Me X
  by_cases ht : t < 0
  · have z1 : decide (t < 0) = true := decide_eq_true ht
    clear h
    refine region_below (by kernel_rfl) (by kernel_rfl) ?_
    repeat (go_big_quiet_step ((go_at_call 20; exact Cn.out _)))
    refine wpQuiet_nil ?_
    rintro w5 ⟨s, rfl⟩
    go_wp2_with fail
    go_ret2
    exact ⟨rfl, bnext hB s.2⟩
  · have h2 : (W.length : Int) ≤ t := by omega
    have z1 : decide (t < 0) = false := decide_eq_false ht
    have z2 : decide ((W.length : Int) ≤ t) = true := decide_eq_true h2
    have z3 : decide (t ≥ (W.length : Int)) = true := decide_eq_true h2
    clear h
    refine region_below (by kernel_rfl) (by kernel_rfl) ?_
    repeat (go_big_quiet_step ((go_at_call 20; exact Cn.out _)))
    refine wpQuiet_nil ?_
    rintro w5 ⟨s, rfl⟩
    go_wp2_with fail
    go_ret2
    exact ⟨rfl, bnext hB s.2⟩
set_option maxHeartbeats 1000000 in
theorem do_out5 (p bw bb : Nat) (W B : List Int) (t a b : Int) (w : World) (M : IsMem w p bw bb W B) (h : t < 0 ∨ (B.length : Int) ≤ t) :
    Calls Try.prog 15 #[.pointer (some ⟨p, 0, none⟩), .agg #[.int .u8 5, .int .i64 t, .int .u64 a, .int .u64 b]] w fun e w' => e = .returned (.tuple #[.int .u64 0, .bool false]) ∧ Below w.heap.size w w' := by
  go_enter Try.func15, Try.ntmps15
  go_upto_region 13 with fail
  generalize hV : World.alloc w _ = V
  have hB : Below w.heap.size w V := hV ▸ (Below.refl _ w).alloc (Nat.le_refl _) _
  have X : At V w.heap.size #[.int .u8 5, .int .i64 t, .int .u64 a, .int .u64 b] 30 := hV ▸ At.last w _ 30
  have Me := M.below hB
  clear hV M
  have x0 := bel_cell (X.cell 0 rfl)
  have x1 := bel_cell (X.cell 1 rfl)
  have x2 := bel_cell (X.cell 2 rfl)
  have x3 := bel_cell (X.cell 3 rfl)
  have Cn := Lib.hid (fun s : Bel V => below_same (w := V) (s := s) (bytes_any s.1 p _ B.length B.length _ (Me.top.below s.2)))
  clear Me X
  by_cases ht : t < 0
  · have z1 : decide (t < 0) = true := decide_eq_true ht
    clear h
    refine region_below (by kernel_rfl) (by kernel_rfl) ?_
    repeat (go_big_quiet_step ((go_at_call 21; exact Cn.out _)))
    refine wpQuiet_nil ?_
    rintro w5 ⟨s, rfl⟩
    go_wp2_with fail
    go_ret2
    exact ⟨rfl, bnext hB s.2⟩
  · have h2 : (B.length : Int) ≤ t := by omega
    have z1 : decide (t < 0) = false := decide_eq_false ht
    have z2 : decide ((B.length : Int) ≤ t) = true := decide_eq_true h2
    have z3 : decide (t ≥ (B.length : Int)) = true := decide_eq_true h2
    clear h
    refine region_below (by kernel_rfl) (by kernel_rfl) ?_
    repeat (go_big_quiet_step ((go_at_call 21; exact Cn.out _)))
    refine wpQuiet_nil ?_
    rintro w5 ⟨s, rfl⟩
    go_wp2_with fail
    go_ret2
    exact ⟨rfl, bnext hB s.2⟩
set_option maxHeartbeats 1000000 in
theorem do_out6 (p bw bb : Nat) (W B : List Int) (t a b : Int) (w : World) (M : IsMem w p bw bb W B) (h : t < 0 ∨ (B.length : Int) ≤ t) :
    Calls Try.prog 15 #[.pointer (some ⟨p, 0, none⟩), .agg #[.int .u8 6, .int .i64 t, .int .u64 a, .int .u64 b]] w fun e w' => e = .returned (.tuple #[.int .u64 0, .bool false]) ∧ Below w.heap.size w w' := by
  go_enter Try.func15, Try.ntmps15
  go_upto_region 13 with fail
  generalize hV : World.alloc w _ = V
  have hB : Below w.heap.size w V := hV ▸ (Below.refl _ w).alloc (Nat.le_refl _) _
  have X : At V w.heap.size #[.int .u8 6, .int .i64 t, .int .u64 a, .int .u64 b] 30 := hV ▸ At.last w _ 30
  have Me := M.below hB
  clear hV M
  have x0 := bel_cell (X.cell 0 rfl)
  have x1 := bel_cell (X.cell 1 rfl)
  have x2 := bel_cell (X.cell 2 rfl)
  have x3 := bel_cell (X.cell 3 rfl)
  have Cn := Lib.hid (fun s : Bel V => below_same (w := V) (s := s) (bytes_any s.1 p _ B.length B.length _ (Me.top.below s.2)))
  clear Me X
  by_cases ht : t < 0
  · have z1 : decide (t < 0) = true := decide_eq_true ht
    clear h
    refine region_below (by kernel_rfl) (by kernel_rfl) ?_
    repeat (go_big_quiet_step ((go_at_call 21; exact Cn.out _)))
    refine wpQuiet_nil ?_
    rintro w5 ⟨s, rfl⟩
    go_wp2_with fail
    go_ret2
    exact ⟨rfl, bnext hB s.2⟩
  · have h2 : (B.length : Int) ≤ t := by omega
    have z1 : decide (t < 0) = false := decide_eq_false ht
    have z2 : decide ((B.length : Int) ≤ t) = true := decide_eq_true h2
    have z3 : decide (t ≥ (B.length : Int)) = true := decide_eq_true h2
    clear h
    refine region_below (by kernel_rfl) (by kernel_rfl) ?_
    repeat (go_big_quiet_step ((go_at_call 21; exact Cn.out _)))
    refine wpQuiet_nil ?_
    rintro w5 ⟨s, rfl⟩
    go_wp2_with fail
    go_ret2
    exact ⟨rfl, bnext hB s.2⟩
set_option maxHeartbeats 1000000 in
theorem do_in1 (p bw bb : Nat) (W B : List Int) (i : Nat) (a b : Int) (w : World) (M : IsMem w p bw bb W B) (h : i < W.length) (a0 : 0 ≤ a) (a1 : a < 18446744073709551616) (b0 : 0 ≤ b) (b1 : b < 18446744073709551616) :
    Calls Try.prog 15 #[.pointer (some ⟨p, 0, none⟩), .agg #[.int .u8 1, .int .i64 i, .int .u64 a, .int .u64 b]] w fun e w' => e = .returned (.tuple #[.int .u64 (W.getD i 0), .bool true]) ∧ IsMem w' p bw bb (W.set i (W.getD i 0)) B ∧ Wr bw bb w w' := by
  have hv := getD_wf M.wwf i h
  have hs := u64s_get W i h
  have HS := Lib.hid (fun (w : World) (M : IsMem w p bw bb W B) v hv => IsMem.setW M i v hv)
  have HL := Lib.hid h
  have hn := M.wlen
  have i0 : (0 : Int) ≤ (i : Int) := by omega
  have i1 : (i : Int) < (W.length : Int) := by omega
  have z1 : decide ((i : Int) < 0) = false := decide_eq_false (by omega)
  have z2 : decide ((W.length : Int) ≤ (i : Int)) = false := decide_eq_false (by omega)
  have z3 : decide ((i : Int) ≥ (W.length : Int)) = false := decide_eq_false (by omega)
  obtain ⟨x, hx⟩ : ∃ x, x = W.getD i 0 := ⟨_, rfl⟩
  rw [← hx] at hv hs
  rw [← hx]
  have HX := Lib.hid hx
  clear hx
  obtain ⟨v0, v1⟩ := hv
  have ix : ∀ w, (Instr.index 82 (.agg #[.nilFunc, .func (.func 52) #[] #[], .func (.func 53) #[] #[], .func (.func 54) #[] #[], .func (.func 55) #[] #[]]) (.int .u8 1)).run Try.prog w = .ok (.func (.func 52) #[] #[]) w := fun _ => by kernel_rfl
  go_enter Try.func15, Try.ntmps15
  go_upto_region 6 with fail
  generalize hV : World.alloc w _ = V
  have hB : Below w.heap.size w V := hV ▸ (Below.refl _ w).alloc (Nat.le_refl _) _
  have X : At V w.heap.size #[.int .u8 1, .int .i64 i, .int .u64 a, .int .u64 b] 30 := hV ▸ At.last w _ 30
  have Me := M.below hB
  clear hV M
  have x0 := bel_cell (X.cell 0 rfl)
  have x1 := bel_cell (X.cell 1 rfl)
  have x2 := bel_cell (X.cell 2 rfl)
  have x3 := bel_cell (X.cell 3 rfl)
  have Cn := Lib.hid (fun s : Bel V => below_same (w := V) (s := s) (words_any s.1 p _ W.length W.length _ (Me.top.below s.2)))
  refine region_below (by kernel_rfl) (by kernel_rfl) ?_
  repeat (go_big_quiet_step ((go_at_call 20; exact Cn.out _)))
  refine wpQuiet_nil ?_
  rintro w5 ⟨s, rfl⟩
  have B5 := bnext hB s.2
  have M5 := Me.below s.2
  have X5 := X.below s.2
  generalize s.1 = V5 at *
  clear x0 x1 x2 x3 Cn Me X hB
  go_upto_region 8 with fail
  have x0 := bel_cell (X5.cell 0 rfl)
  have x1 := bel_cell (X5.cell 1 rfl)
  have x2 := bel_cell (X5.cell 2 rfl)
  have x3 := bel_cell (X5.cell 3 rfl)
  have m0 := bel_cell (M5.top.cell 0 rfl)
  have m1 := bel_cell (M5.words.cell i hs)
  refine region_below (by kernel_rfl) (by kernel_rfl) ?_
  repeat (go_big_quiet_step (first | (go_at_call 45; exact below_of (kinds_any _)) | (go_at_call 52; exact below_of (f52 x 1 i a b _))))
  refine wpQuiet_nil ?_
  rintro w5 ⟨s, rfl⟩
  have B8 := bnext B5 s.2
  have M8 := M5.below s.2
  have X8 := X5.below s.2
  generalize s.1 = V8 at *
  clear x0 x1 x2 x3 m0 m1 M5 X5 B5
  go_upto_region 9 with fail
  have x0 := bel_cell (X8.cell 0 rfl)
  have x1 := bel_cell (X8.cell 1 rfl)
  have x2 := bel_cell (X8.cell 2 rfl)
  have x3 := bel_cell (X8.cell 3 rfl)
  have m0 := bel_cell (M8.top.cell 0 rfl)
  have m1 := bel_cell (M8.words.cell i hs)
  refine tail_below 8 (by kernel_rfl) (by kernel_rfl) ?_
  simp only [List.take_succ_cons, List.take_zero, List.drop_succ_cons, List.drop_zero]
  repeat (go_big_quiet_step (fail))
  refine wpQuiet_nil ?_
  rintro w5 ⟨s, rfl⟩
  have B9 := bnext B8 s.2
  have M9 := M8.below s.2
  have X9 := X8.below s.2
  generalize s.1 = V9 at *
  clear x0 x1 x2 x3 m0 m1 M8 X8 B8
  have c1 := M9.words.cell i hs
  have c2 := frozen_of_row _ _ i _ _ M9.words
  go_wp2_with fail
  go_ret2
  exact ⟨rfl, HS.out _ M9 _ (by omega), Wr.setCell (bw := bw) (bb := bb) (q := ⟨bw, i, none⟩) (Wr.of_below B9) (.inl rfl) _⟩
set_option maxHeartbeats 1000000 in
theorem do_in2 (p bw bb : Nat) (W B : List Int) (i : Nat) (a b : Int) (w : World) (M : IsMem w p bw bb W B) (h : i < W.length) (a0 : 0 ≤ a) (a1 : a < 18446744073709551616) (b0 : 0 ≤ b) (b1 : b < 18446744073709551616) :
    Calls Try.prog 15 #[.pointer (some ⟨p, 0, none⟩), .agg #[.int .u8 2, .int .i64 i, .int .u64 a, .int .u64 b]] w fun e w' => e = .returned (.tuple #[.int .u64 (0), .bool true]) ∧ IsMem w' p bw bb (W.set i (a)) B ∧ Wr bw bb w w' := by
  have hv := getD_wf M.wwf i h
  have hs := u64s_get W i h
  have HS := Lib.hid (fun (w : World) (M : IsMem w p bw bb W B) v hv => IsMem.setW M i v hv)
  have HL := Lib.hid h
  have hn := M.wlen
  have i0 : (0 : Int) ≤ (i : Int) := by omega
  have i1 : (i : Int) < (W.length : Int) := by omega
  have z1 : decide ((i : Int) < 0) = false := decide_eq_false (by omega)
  have z2 : decide ((W.length : Int) ≤ (i : Int)) = false := decide_eq_false (by omega)
  have z3 : decide ((i : Int) ≥ (W.length : Int)) = false := decide_eq_false (by omega)
  obtain ⟨x, hx⟩ : ∃ x, x = W.getD i 0 := ⟨_, rfl⟩
  rw [← hx] at hv hs

  have HX := Lib.hid hx
  clear hx
  obtain ⟨v0, v1⟩ := hv
  have ix : ∀ w, (Instr.index 82 (.agg #[.nilFunc, .func (.func 52) #[] #[], .func (.func 53) #[] #[], .func (.func 54) #[] #[], .func (.func 55) #[] #[]]) (.int .u8 2)).run Try.prog w = .ok (.func (.func 53) #[] #[]) w := fun _ => by kernel_rfl
  go_enter Try.func15, Try.ntmps15
  go_upto_region 6 with fail
  generalize hV : World.alloc w _ = V
  have hB : Below w.heap.size w V := hV ▸ (Below.refl _ w).alloc (Nat.le_refl _) _
  have X : At V w.heap.size #[.int .u8 2, .int .i64 i, .int .u64 a, .int .u64 b] 30 := hV ▸ At.last w _ 30
  have Me := M.below hB
  clear hV M
  have x0 := bel_cell (X.cell 0 rfl)
  have x1 := bel_cell (X.cell 1 rfl)
  have x2 := bel_cell (X.cell 2 rfl)
  have x3 := bel_cell (X.cell 3 rfl)
  have Cn := Lib.hid (fun s : Bel V => below_same (w := V) (s := s) (words_any s.1 p _ W.length W.length _ (Me.top.below s.2)))
  refine region_below (by kernel_rfl) (by kernel_rfl) ?_
  repeat (go_big_quiet_step ((go_at_call 20; exact Cn.out _)))
  refine wpQuiet_nil ?_
  rintro w5 ⟨s, rfl⟩
  have B5 := bnext hB s.2
  have M5 := Me.below s.2
  have X5 := X.below s.2
  generalize s.1 = V5 at *
  clear x0 x1 x2 x3 Cn Me X hB
  go_upto_region 8 with fail
  have x0 := bel_cell (X5.cell 0 rfl)
  have x1 := bel_cell (X5.cell 1 rfl)
  have x2 := bel_cell (X5.cell 2 rfl)
  have x3 := bel_cell (X5.cell 3 rfl)
  have m0 := bel_cell (M5.top.cell 0 rfl)
  have m1 := bel_cell (M5.words.cell i hs)
  refine region_below (by kernel_rfl) (by kernel_rfl) ?_
  repeat (go_big_quiet_step (first | (go_at_call 45; exact below_of (kinds_any _)) | (go_at_call 53; exact below_of (f53 x 2 i a b _))))
  refine wpQuiet_nil ?_
  rintro w5 ⟨s, rfl⟩
  have B8 := bnext B5 s.2
  have M8 := M5.below s.2
  have X8 := X5.below s.2
  generalize s.1 = V8 at *
  clear x0 x1 x2 x3 m0 m1 M5 X5 B5
  go_upto_region 9 with fail
  have x0 := bel_cell (X8.cell 0 rfl)
  have x1 := bel_cell (X8.cell 1 rfl)
  have x2 := bel_cell (X8.cell 2 rfl)
  have x3 := bel_cell (X8.cell 3 rfl)
  have m0 := bel_cell (M8.top.cell 0 rfl)
  have m1 := bel_cell (M8.words.cell i hs)
  refine tail_below 8 (by kernel_rfl) (by kernel_rfl) ?_
  simp only [List.take_succ_cons, List.take_zero, List.drop_succ_cons, List.drop_zero]
  repeat (go_big_quiet_step (fail))
  refine wpQuiet_nil ?_
  rintro w5 ⟨s, rfl⟩
  have B9 := bnext B8 s.2
  have M9 := M8.below s.2
  have X9 := X8.below s.2
  generalize s.1 = V9 at *
  clear x0 x1 x2 x3 m0 m1 M8 X8 B8
  have c1 := M9.words.cell i hs
  have c2 := frozen_of_row _ _ i _ _ M9.words
  go_wp2_with fail
  go_ret2
  exact ⟨rfl, HS.out _ M9 _ (by omega), Wr.setCell (bw := bw) (bb := bb) (q := ⟨bw, i, none⟩) (Wr.of_below B9) (.inl rfl) _⟩
set_option maxHeartbeats 1000000 in
theorem do_in3 (p bw bb : Nat) (W B : List Int) (i : Nat) (a b : Int) (w : World) (M : IsMem w p bw bb W B) (h : i < W.length) (a0 : 0 ≤ a) (a1 : a < 18446744073709551616) (b0 : 0 ≤ b) (b1 : b < 18446744073709551616) :
    Calls Try.prog 15 #[.pointer (some ⟨p, 0, none⟩), .agg #[.int .u8 3, .int .i64 i, .int .u64 a, .int .u64 b]] w fun e w' => e = .returned (.tuple #[.int .u64 (if W.getD i 0 = a then 1 else 0), .bool true]) ∧ IsMem w' p bw bb (W.set i (if W.getD i 0 = a then b else W.getD i 0)) B ∧ Wr bw bb w w' := by
  have hv := getD_wf M.wwf i h
  have hs := u64s_get W i h
  have HS := Lib.hid (fun (w : World) (M : IsMem w p bw bb W B) v hv => IsMem.setW M i v hv)
  have HL := Lib.hid h
  have hn := M.wlen
  have i0 : (0 : Int) ≤ (i : Int) := by omega
  have i1 : (i : Int) < (W.length : Int) := by omega
  have z1 : decide ((i : Int) < 0) = false := decide_eq_false (by omega)
  have z2 : decide ((W.length : Int) ≤ (i : Int)) = false := decide_eq_false (by omega)
  have z3 : decide ((i : Int) ≥ (W.length : Int)) = false := decide_eq_false (by omega)
  obtain ⟨x, hx⟩ : ∃ x, x = W.getD i 0 := ⟨_, rfl⟩
  rw [← hx] at hv hs
  rw [← hx]
  have HX := Lib.hid hx
  clear hx
  obtain ⟨v0, v1⟩ := hv
  have Cf := Lib.hid (fun w => f54 x 3 i a b w)
  have hy : 0 ≤ (if x = a then b else x) ∧ (if x = a then b else x) < 18446744073709551616 := by split <;> omega
  generalize (if x = a then b else x) = y at *
  generalize (if x = a then (1 : Int) else 0) = z at *
  obtain ⟨y0, y1⟩ := hy
  have ix : ∀ w, (Instr.index 82 (.agg #[.nilFunc, .func (.func 52) #[] #[], .func (.func 53) #[] #[], .func (.func 54) #[] #[], .func (.func 55) #[] #[]]) (.int .u8 3)).run Try.prog w = .ok (.func (.func 54) #[] #[]) w := fun _ => by kernel_rfl
  go_enter Try.func15, Try.ntmps15
  go_upto_region 6 with fail
  generalize hV : World.alloc w _ = V
  have hB : Below w.heap.size w V := hV ▸ (Below.refl _ w).alloc (Nat.le_refl _) _
  have X : At V w.heap.size #[.int .u8 3, .int .i64 i, .int .u64 a, .int .u64 b] 30 := hV ▸ At.last w _ 30
  have Me := M.below hB
  clear hV M
  have x0 := bel_cell (X.cell 0 rfl)
  have x1 := bel_cell (X.cell 1 rfl)
  have x2 := bel_cell (X.cell 2 rfl)
  have x3 := bel_cell (X.cell 3 rfl)
  have Cn := Lib.hid (fun s : Bel V => below_same (w := V) (s := s) (words_any s.1 p _ W.length W.length _ (Me.top.below s.2)))
  refine region_below (by kernel_rfl) (by kernel_rfl) ?_
  repeat (go_big_quiet_step ((go_at_call 20; exact Cn.out _)))
  refine wpQuiet_nil ?_
  rintro w5 ⟨s, rfl⟩
  have B5 := bnext hB s.2
  have M5 := Me.below s.2
  have X5 := X.below s.2
  generalize s.1 = V5 at *
  clear x0 x1 x2 x3 Cn Me X hB
  go_upto_region 8 with fail
  have x0 := bel_cell (X5.cell 0 rfl)
  have x1 := bel_cell (X5.cell 1 rfl)
  have x2 := bel_cell (X5.cell 2 rfl)
  have x3 := bel_cell (X5.cell 3 rfl)
  have m0 := bel_cell (M5.top.cell 0 rfl)
  have m1 := bel_cell (M5.words.cell i hs)
  refine region_below (by kernel_rfl) (by kernel_rfl) ?_
  repeat (go_big_quiet_step (first | (go_at_call 45; exact below_of (kinds_any _)) | (go_at_call 54; exact below_of (Cf.out _))))
  refine wpQuiet_nil ?_
  rintro w5 ⟨s, rfl⟩
  have B8 := bnext B5 s.2
  have M8 := M5.below s.2
  have X8 := X5.below s.2
  generalize s.1 = V8 at *
  clear x0 x1 x2 x3 m0 m1 M5 X5 B5
  go_upto_region 9 with fail
  have x0 := bel_cell (X8.cell 0 rfl)
  have x1 := bel_cell (X8.cell 1 rfl)
  have x2 := bel_cell (X8.cell 2 rfl)
  have x3 := bel_cell (X8.cell 3 rfl)
  have m0 := bel_cell (M8.top.cell 0 rfl)
  have m1 := bel_cell (M8.words.cell i hs)
  refine tail_below 8 (by kernel_rfl) (by kernel_rfl) ?_
  simp only [List.take_succ_cons, List.take_zero, List.drop_succ_cons, List.drop_zero]
  repeat (go_big_quiet_step (fail))
  refine wpQuiet_nil ?_
  rintro w5 ⟨s, rfl⟩
  have B9 := bnext B8 s.2
  have M9 := M8.below s.2
  have X9 := X8.below s.2
  generalize s.1 = V9 at *
  clear x0 x1 x2 x3 m0 m1 M8 X8 B8
  have c1 := M9.words.cell i hs
  have c2 := frozen_of_row _ _ i _ _ M9.words
  go_wp2_with fail
  go_ret2
  exact ⟨rfl, HS.out _ M9 _ (by omega), Wr.setCell (bw := bw) (bb := bb) (q := ⟨bw, i, none⟩) (Wr.of_below B9) (.inl rfl) _⟩
set_option maxHeartbeats 1000000 in
theorem do_in4 (p bw bb : Nat) (W B : List Int) (i : Nat) (a b : Int) (w : World) (M : IsMem w p bw bb W B) (h : i < W.length) (a0 : 0 ≤ a) (a1 : a < 18446744073709551616) (b0 : 0 ≤ b) (b1 : b < 18446744073709551616) :
    Calls Try.prog 15 #[.pointer (some ⟨p, 0, none⟩), .agg #[.int .u8 4, .int .i64 i, .int .u64 a, .int .u64 b]] w fun e w' => e = .returned (.tuple #[.int .u64 (W.getD i 0), .bool true]) ∧ IsMem w' p bw bb (W.set i ((W.getD i 0 + a) % 18446744073709551616)) B ∧ Wr bw bb w w' := by
  have hv := getD_wf M.wwf i h
  have hs := u64s_get W i h
  have HS := Lib.hid (fun (w : World) (M : IsMem w p bw bb W B) v hv => IsMem.setW M i v hv)
  have HL := Lib.hid h
  have hn := M.wlen
  have i0 : (0 : Int) ≤ (i : Int) := by omega
  have i1 : (i : Int) < (W.length : Int) := by omega
  have z1 : decide ((i : Int) < 0) = false := decide_eq_false (by omega)
  have z2 : decide ((W.length : Int) ≤ (i : Int)) = false := decide_eq_false (by omega)
  have z3 : decide ((i : Int) ≥ (W.length : Int)) = false := decide_eq_false (by omega)
  obtain ⟨x, hx⟩ : ∃ x, x = W.getD i 0 := ⟨_, rfl⟩
  rw [← hx] at hv hs
  rw [← hx]
  have HX := Lib.hid hx
  clear hx
  obtain ⟨v0, v1⟩ := hv
  have ix : ∀ w, (Instr.index 82 (.agg #[.nilFunc, .func (.func 52) #[] #[], .func (.func 53) #[] #[], .func (.func 54) #[] #[], .func (.func 55) #[] #[]]) (.int .u8 4)).run Try.prog w = .ok (.func (.func 55) #[] #[]) w := fun _ => by kernel_rfl
  go_enter Try.func15, Try.ntmps15
  go_upto_region 6 with fail
  generalize hV : World.alloc w _ = V
  have hB : Below w.heap.size w V := hV ▸ (Below.refl _ w).alloc (Nat.le_refl _) _
  have X : At V w.heap.size #[.int .u8 4, .int .i64 i, .int .u64 a, .int .u64 b] 30 := hV ▸ At.last w _ 30
  have Me := M.below hB
  clear hV M
  have x0 := bel_cell (X.cell 0 rfl)
  have x1 := bel_cell (X.cell 1 rfl)
  have x2 := bel_cell (X.cell 2 rfl)
  have x3 := bel_cell (X.cell 3 rfl)
  have Cn := Lib.hid (fun s : Bel V => below_same (w := V) (s := s) (words_any s.1 p _ W.length W.length _ (Me.top.below s.2)))
  refine region_below (by kernel_rfl) (by kernel_rfl) ?_
  repeat (go_big_quiet_step ((go_at_call 20; exact Cn.out _)))
  refine wpQuiet_nil ?_
  rintro w5 ⟨s, rfl⟩
  have B5 := bnext hB s.2
  have M5 := Me.below s.2
  have X5 := X.below s.2
  generalize s.1 = V5 at *
  clear x0 x1 x2 x3 Cn Me X hB
  go_upto_region 8 with fail
  have x0 := bel_cell (X5.cell 0 rfl)
  have x1 := bel_cell (X5.cell 1 rfl)
  have x2 := bel_cell (X5.cell 2 rfl)
  have x3 := bel_cell (X5.cell 3 rfl)
  have m0 := bel_cell (M5.top.cell 0 rfl)
  have m1 := bel_cell (M5.words.cell i hs)
  refine region_below (by kernel_rfl) (by kernel_rfl) ?_
  repeat (go_big_quiet_step (first | (go_at_call 45; exact below_of (kinds_any _)) | (go_at_call 55; exact below_of (f55 x 4 i a b _ v0 v1 a0 a1))))
  refine wpQuiet_nil ?_
  rintro w5 ⟨s, rfl⟩
  have B8 := bnext B5 s.2
  have M8 := M5.below s.2
  have X8 := X5.below s.2
  generalize s.1 = V8 at *
  clear x0 x1 x2 x3 m0 m1 M5 X5 B5
  go_upto_region 9 with fail
  have x0 := bel_cell (X8.cell 0 rfl)
  have x1 := bel_cell (X8.cell 1 rfl)
  have x2 := bel_cell (X8.cell 2 rfl)
  have x3 := bel_cell (X8.cell 3 rfl)
  have m0 := bel_cell (M8.top.cell 0 rfl)
  have m1 := bel_cell (M8.words.cell i hs)
  refine tail_below 8 (by kernel_rfl) (by kernel_rfl) ?_
  simp only [List.take_succ_cons, List.take_zero, List.drop_succ_cons, List.drop_zero]
  repeat (go_big_quiet_step (fail))
  refine wpQuiet_nil ?_
  rintro w5 ⟨s, rfl⟩
  have B9 := bnext B8 s.2
  have M9 := M8.below s.2
  have X9 := X8.below s.2
  generalize s.1 = V9 at *
  clear x0 x1 x2 x3 m0 m1 M8 X8 B8
  have c1 := M9.words.cell i hs
  have c2 := frozen_of_row _ _ i _ _ M9.words
  go_wp2_with fail
  go_ret2
  exact ⟨rfl, HS.out _ M9 _ (by omega), Wr.setCell (bw := bw) (bb := bb) (q := ⟨bw, i, none⟩) (Wr.of_below B9) (.inl rfl) _⟩
end Go.Proofs.Ytmdagppeeejikaa
