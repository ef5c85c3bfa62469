/- mem.New; Do, Word and Byte at whatever access. Condition: the numbers fit their kinds, the words and bytes lie in memory of their own. -/
import Derived.Test.YtmdagppeeejikaaMc
import Derived.Laws.MakeOwn
namespace Go.Proofs.Ytmdagppeeejikaa
open Go.RowKit
set_option linter.unusedVariables false

def zeros (n : Nat) : List Int := List.replicate n 0
theorem Try.info22 : (Try.prog.info? 22).map (fun i => (i.zero, i.size, i.bytes)) = some (some (.int .u64 0), 1, 8) := by kernel_rfl
theorem Try.info5 : (Try.prog.info? 5).map (fun i => (i.zero, i.size, i.bytes)) = some (some (.int .u8 0), 1, 1) := by kernel_rfl
theorem made_one (v : Value) (n : Nat) : madeCells #[v] n = (List.replicate n v).toArray := by
  apply Array.ext'
  apply List.ext_getElem?
  intro i
  by_cases h : i < n
  · simp [madeCells, h, Nat.mod_one]
  · simp [madeCells, h]
theorem mk22 (n : Nat) (h : n ≤ 2097152) (w : World) : (Instr.makeSlice 34 (.int .i64 n) (.int .i64 n)).run Try.prog w = .ok (.slice (some ⟨w.heap.size, 0, none⟩) n n) (w.alloc (.cells (u64s (zeros n)) 22)) := by
  obtain ⟨i, hi, hz, h1, h2⟩ := info_parts Try.info22
  have := run_make (P := Try.prog) (w := w) 34 22 i _ Try.underlying34 hi hz .i64 .i64 n n (by omega) (by omega) (by rw [h2]; omega) (by omega)
  rw [this, h1]
  have e : (Value.int .u64 0).cells = #[.int .u64 0] := rfl
  rw [e, Nat.mul_one, made_one]
  simp [u64s, zeros]
theorem mk5 (n : Nat) (h : n ≤ 1048576) (w : World) : (Instr.makeSlice 36 (.int .i64 n) (.int .i64 n)).run Try.prog w = .ok (.slice (some ⟨w.heap.size, 0, none⟩) n n) (w.alloc (.cells (u8s (zeros n)) 5)) := by
  obtain ⟨i, hi, hz, h1, h2⟩ := info_parts Try.info5
  have := run_make (P := Try.prog) (w := w) 36 5 i _ Try.underlying36 hi hz .i64 .i64 n n (by omega) (by omega) (by rw [h2]; omega) (by omega)
  rw [this, h1]
  have e : (Value.int .u8 0).cells = #[.int .u8 0] := rfl
  rw [e, Nat.mul_one, made_one]
  simp [u8s, zeros]

/-- what New leaves -/
def NewAt (n k : Nat) (w : World) (e : Ending) (w' : World) : Prop := ∃ p bw bb, e = .returned (.tuple #[.pointer (some ⟨p, 0, none⟩), .int .i64 0]) ∧ IsMem w' p bw bb (zeros n) (zeros k) ∧ Below w.heap.size w w' ∧ w.heap.size ≤ p ∧ w.heap.size ≤ bw ∧ w.heap.size ≤ bb

theorem al3_0 (w : World) (A B C : Obj) : (((w.alloc A).alloc B).alloc C).heap[w.heap.size]? = some A := by
  rw [heap_alloc_old _ _ (by simp; omega), heap_alloc_old _ _ (by simp)]
  exact heap_alloc_new _ _
theorem al3_1 (w : World) (A B C : Obj) : (((w.alloc A).alloc B).alloc C).heap[w.heap.size + 1]? = some B := by
  rw [heap_alloc_old _ _ (by simp)]
  exact heap_alloc2_new _ _ _
theorem al3_2 (w : World) (A B C : Obj) : (((w.alloc A).alloc B).alloc C).heap[w.heap.size + 1 + 1]? = some C := by
  have := heap_alloc_new ((w.alloc A).alloc B) C
  simpa using this
theorem al3_b (w : World) (A B C : Obj) : Below w.heap.size w (((w.alloc A).alloc B).alloc C) := (((Below.refl _ w).alloc (Nat.le_refl _) _).alloc (by simp) _).alloc (by simp; omega) _
theorem zeros_wf (n : Nat) (m : Int) (h : 0 < m) : ∀ x ∈ zeros n, 0 ≤ x ∧ x < m := by
  intro x hx
  have := List.eq_of_mem_replicate hx
  omega
theorem new_fin (n k : Nat) (w V : World) (p bw bb : Nat) (h1 : n ≤ 2097152) (h2 : k ≤ 1048576) (hp : V.heap[p]? = some (.cells #[.slice (some ⟨bw, 0, none⟩) n n, .slice (some ⟨bb, 0, none⟩) k k] 78 (0, 0)))
    (hw : V.heap[bw]? = some (.cells (u64s (zeros n)) 22 (0, 0))) (hb : V.heap[bb]? = some (.cells (u8s (zeros k)) 5 (0, 0))) (hB : Below w.heap.size w V) (l1 : w.heap.size ≤ p) (l2 : w.heap.size ≤ bw) (l3 : w.heap.size ≤ bb) :
    NewAt n k w (.returned (.tuple #[.pointer (some ⟨p, 0, none⟩), .int .i64 0])) V := by
  have e1 : (zeros n).length = n := by simp [zeros]
  have e2 : (zeros k).length = k := by simp [zeros]
  refine ⟨p, bw, bb, rfl, ⟨?_, hw, hb, by omega, by omega, zeros_wf _ _ (by decide), zeros_wf _ _ (by decide)⟩, hB, l1, l2, l3⟩
  rw [e1, e2]
  exact hp

set_option maxHeartbeats 1000000 in
theorem new_yes (n k : Nat) (w : World) (h1 : n ≤ 2097152) (h2 : k ≤ 1048576) :
    Calls Try.prog 14 #[.int .i64 n, .int .i64 k] w (NewAt n k w) := by
  have m1 := mk22 n h1
  have m2 := mk5 k h2
  go_enter Try.func14, Try.ntmps14
  go_wp2_with fail
  go_region_with (fail)
  all_goals go_wp2_with fail
  all_goals go_ret2
  · refine new_fin n k w _ (w.heap.size + 1 + 1) w.heap.size (w.heap.size + 1) h1 h2 (al3_2 w _ _ _) (al3_0 w _ _ _) (al3_1 w _ _ _) ?_ (by omega) (by omega) (by omega)
    first | exact (al3_b w _ _ _).drew | exact (al3_b w _ _ _)
  · refine new_fin n k w _ (w.heap.size + 1 + 1) (w.heap.size + 1) w.heap.size h1 h2 (al3_2 w _ _ _) (al3_1 w _ _ _) (al3_0 w _ _ _) ?_ (by omega) (by omega) (by omega)
    first | exact (al3_b w _ _ _).drew | exact (al3_b w _ _ _)
theorem new_no (n k : Int) (w : World) (h : n < 0 ∨ k < 0 ∨ 2097152 < n ∨ 1048576 < k) :
    Calls Try.prog 14 #[.int .i64 n, .int .i64 k] w fun e w' => e = .returned (.tuple #[.pointer none, .int .i64 1]) ∧ w' = w := by
  by_cases h1 : n < 0
  · clear h
    go_enter Try.func14, Try.ntmps14
    go_wp2_with fail
    go_ret2
    exact ⟨rfl, rfl⟩
  by_cases h2 : k < 0
  · clear h
    go_enter Try.func14, Try.ntmps14
    go_wp2_with fail
    go_ret2
    exact ⟨rfl, rfl⟩
  by_cases h3 : 2097152 < n
  · clear h
    go_enter Try.func14, Try.ntmps14
    go_wp2_with fail
    go_ret2
    exact ⟨rfl, rfl⟩
  · have h4 : 1048576 < k := by omega
    clear h
    go_enter Try.func14, Try.ntmps14
    go_wp2_with fail
    go_ret2
    exact ⟨rfl, rfl⟩

/-- what an access does, whatever it is -/
def inW (W : List Int) (k t : Int) : Bool := decide (1 ≤ k) && (decide (k ≤ 4) && (decide (0 ≤ t) && decide (t < W.length)))
def inB (B : List Int) (k t : Int) : Bool := decide (5 ≤ k) && (decide (k ≤ 6) && (decide (0 ≤ t) && decide (t < B.length)))
def okD (W B : List Int) (k t : Int) : Bool := inW W k t || inB B k t
def wD (W : List Int) (k t a b : Int) : List Int := if inW W k t then W.set t.toNat (nowW k (W.getD t.toNat 0) a b) else W
def bD (B : List Int) (k t a : Int) : List Int := if inB B k t && k == 6 then B.set t.toNat (a % 256) else B
def tD (W B : List Int) (k t a : Int) : Int := if inW W k t then toldW k (W.getD t.toNat 0) a else if inB B k t && k == 5 then B.getD t.toNat 0 else 0

theorem do_any (p bw bb : Nat) (W B : List Int) (k t a b : Int) (w : World) (M : IsMem w p bw bb W B) (k0 : 0 ≤ k) (k1 : k ≤ 255) (a0 : 0 ≤ a) (a1 : a < 18446744073709551616) (b0 : 0 ≤ b) (b1 : b < 18446744073709551616) :
    Calls Try.prog 15 #[.pointer (some ⟨p, 0, none⟩), .agg #[.int .u8 k, .int .i64 t, .int .u64 a, .int .u64 b]] w fun e w' => e = .returned (.tuple #[.int .u64 (tD W B k t a), .bool (okD W B k t)]) ∧ IsMem w' p bw bb (wD W k t a b) (bD B k t a) ∧ Wr bw bb w w' := by
  have keep : ∀ {e : Ending} {w' : World}, inW W k t = false → inB B k t = false → (e = .returned (.tuple #[.int .u64 0, .bool false]) ∧ Below w.heap.size w w') →
      e = .returned (.tuple #[.int .u64 (tD W B k t a), .bool (okD W B k t)]) ∧ IsMem w' p bw bb (wD W k t a b) (bD B k t a) ∧ Wr bw bb w w' := by
    intro e w' h1 h2 ⟨he, hb⟩
    refine ⟨by rw [he]; simp [tD, okD, h1, h2], ?_, Wr.of_below hb⟩
    simp only [wD, bD, h1, h2]
    exact M.below hb
  by_cases hk : k < 1 ∨ 6 < k
  · refine (do_none _ k t a b w k0 k1 hk).mono fun e w' h => keep ?_ ?_ h
    · simp [inW]; omega
    · simp [inB]; omega
  by_cases h4 : k ≤ 4
  · have hb2 : inB B k t = false := by simp [inB]; omega
    by_cases ht : t < 0 ∨ (W.length : Int) ≤ t
    · have hw2 : inW W k t = false := by simp [inW]; omega
      rcases (show k = 1 ∨ k = 2 ∨ k = 3 ∨ k = 4 by omega) with rfl | rfl | rfl | rfl
      · exact (do_out1 p bw bb W B t a b w M ht).mono fun e w' h => keep hw2 hb2 h
      · exact (do_out2 p bw bb W B t a b w M ht).mono fun e w' h => keep hw2 hb2 h
      · exact (do_out3 p bw bb W B t a b w M ht).mono fun e w' h => keep hw2 hb2 h
      · exact (do_out4 p bw bb W B t a b w M ht).mono fun e w' h => keep hw2 hb2 h
    · obtain ⟨i, rfl⟩ : ∃ i : Nat, t = i := ⟨t.toNat, by omega⟩
      have hi : i < W.length := by omega
      have hw1 : inW W k i = true := by simp [inW]; omega
      have e1 : okD W B k i = true := by simp [okD, hw1]
      have e2 : bD B k i a = B := by simp [bD, hb2]
      have e3 : wD W k i a b = W.set i (nowW k (W.getD i 0) a b) := by simp [wD, hw1]
      have e4 : tD W B k i a = toldW k (W.getD i 0) a := by simp [tD, hw1]
      rw [e1, e2, e3, e4]
      rcases (show k = 1 ∨ k = 2 ∨ k = 3 ∨ k = 4 by omega) with rfl | rfl | rfl | rfl
      · exact do_in1 p bw bb W B i a b w M hi a0 a1 b0 b1
      · exact do_in2 p bw bb W B i a b w M hi a0 a1 b0 b1
      · exact do_in3 p bw bb W B i a b w M hi a0 a1 b0 b1
      · exact do_in4 p bw bb W B i a b w M hi a0 a1 b0 b1
  · have hw2 : inW W k t = false := by simp [inW]; omega
    by_cases ht : t < 0 ∨ (B.length : Int) ≤ t
    · have hb2 : inB B k t = false := by simp [inB]; omega
      rcases (show k = 5 ∨ k = 6 by omega) with rfl | rfl
      · exact (do_out5 p bw bb W B t a b w M ht).mono fun e w' h => keep hw2 hb2 h
      · exact (do_out6 p bw bb W B t a b w M ht).mono fun e w' h => keep hw2 hb2 h
    · obtain ⟨i, rfl⟩ : ∃ i : Nat, t = i := ⟨t.toNat, by omega⟩
      have hi : i < B.length := by omega
      have hb1 : inB B k i = true := by simp [inB]; omega
      have e1 : okD W B k i = true := by simp [okD, hb1]
      have e3 : wD W k i a b = W := by simp [wD, hw2]
      rw [e1, e3]
      rcases (show k = 5 ∨ k = 6 by omega) with rfl | rfl
      · have e2 : bD B 5 i a = B := by simp [bD]
        have e4 : tD W B 5 i a = B.getD i 0 := by simp [tD, hw2, hb1]
        rw [e2, e4]
        exact (do_in5 p bw bb W B i a b w M hi a0 a1 b0 b1).mono fun e w' ⟨he, hb⟩ => ⟨he, M.below hb, Wr.of_below hb⟩
      · have e2 : bD B 6 i a = B.set i (a % 256) := by simp [bD, hb1]
        have e4 : tD W B 6 i a = 0 := by simp [tD, hw2]
        rw [e2, e4]
        exact do_in6 p bw bb W B i a b w M hi a0 a1 b0 b1
/-- the word, or the byte, at a place; 0: there is none -/
def at0 (L : List Int) (t : Int) : Int := if decide (0 ≤ t) && decide (t < L.length) then L.getD t.toNat 0 else 0
theorem set_getD (L : List Int) (i : Nat) : L.set i (L.getD i 0) = L := by
  apply List.ext_getElem?
  intro j
  rw [List.getElem?_set]
  by_cases h : i = j
  · subst h
    by_cases h2 : i < L.length
    · simp [h2, List.getD]
    · simp [h2]
  · simp [h]
theorem wD_load (W : List Int) (t a b : Int) : wD W 1 t a b = W := by
  unfold wD
  by_cases h : inW W 1 t = true
  · rw [if_pos h]; exact set_getD W t.toNat
  · rw [if_neg h]
theorem tD_load (W B : List Int) (t a : Int) : tD W B 1 t a = at0 W t := by
  simp [tD, at0, inW, inB, toldW]
theorem tD_get (W B : List Int) (t a : Int) : tD W B 5 t a = at0 B t := by
  simp [tD, at0, inW, inB]
theorem bD_get (B : List Int) (k t a : Int) (h : k ≠ 6) : bD B k t a = B := by simp [bD, h]
theorem wD_byte (W : List Int) (k t a b : Int) (h : 4 < k) : wD W k t a b = W := by
  have : inW W k t = false := by simp [inW]; omega
  simp [wD, this]
theorem at0_wf {l : List Int} {m : Int} (hm : 0 < m) (h : ∀ x ∈ l, 0 ≤ x ∧ x < m) (t : Int) : 0 ≤ at0 l t ∧ at0 l t < m := by
  unfold at0
  split
  · rename_i h2
    simp at h2
    exact getD_wf h _ (by omega)
  · omega

theorem word_any (p bw bb : Nat) (W B : List Int) (t : Int) (w : World) (M : IsMem w p bw bb W B) :
    Calls Try.prog 16 #[.pointer (some ⟨p, 0, none⟩), .int .i64 t] w fun e w' => e = .returned (.int .u64 (at0 W t)) ∧ IsMem w' p bw bb W B ∧ Wr bw bb w w' := by
  have C := do_any p bw bb W B 1 t 0 0 w M (by decide) (by decide) (by decide) (by decide) (by decide) (by decide)
  rw [wD_load, bD_get _ _ _ _ (by decide), tD_load] at C
  have HC := Lib.hid C
  clear C M
  go_enter Try.func16, Try.ntmps16
  go_wp2_with fail
  refine HC.out.mono ?_
  rintro e w1 ⟨rfl, M, hw⟩
  have HM := Lib.hid M
  clear M
  go_wp2_with fail
  go_ret
  exact ⟨rfl, HM.out, hw⟩
theorem byte_any (p bw bb : Nat) (W B : List Int) (t : Int) (w : World) (M : IsMem w p bw bb W B) :
    Calls Try.prog 23 #[.pointer (some ⟨p, 0, none⟩), .int .i64 t] w fun e w' => e = .returned (.int .u8 (at0 B t)) ∧ IsMem w' p bw bb W B ∧ Wr bw bb w w' := by
  have C := do_any p bw bb W B 5 t 0 0 w M (by decide) (by decide) (by decide) (by decide) (by decide) (by decide)
  rw [wD_byte _ _ _ _ _ (by decide), bD_get _ _ _ _ (by decide), tD_get] at C
  obtain ⟨y0, y1⟩ := at0_wf (by decide) M.bwf t
  have HC := Lib.hid C
  clear C M
  generalize at0 B t = y at *
  go_enter Try.func23, Try.ntmps23
  go_wp2_with fail
  refine HC.out.mono ?_
  rintro e w1 ⟨rfl, M, hw⟩
  have HM := Lib.hid M
  clear M
  go_wp2_with fail
  go_ret
  exact ⟨rfl, HM.out, hw⟩
end Go.Proofs.Ytmdagppeeejikaa
