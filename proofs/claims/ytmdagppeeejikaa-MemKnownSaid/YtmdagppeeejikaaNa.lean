/- Ports: what a way does, and a port's accesses. Condition: the numbers fit their kinds. -/
import Derived.Test.YtmdagppeeejikaaMe
namespace Go.Proofs.Ytmdagppeeejikaa
open Go.RowKit
set_option linter.unusedVariables false

/-- w' is w with more memory, and other cells in the blocks of the list -/
structure Ch (l : List Nat) (w w' : World) : Prop where
  os : w'.os = w.os
  tape : w'.tape = w.tape
  output : w'.output = w.output
  size : w.heap.size ≤ w'.heap.size
  block : ∀ k, k < w.heap.size → k ∉ l → w'.heap[k]? = w.heap[k]?
theorem Ch.refl (l : List Nat) (w : World) : Ch l w w := ⟨rfl, rfl, rfl, Nat.le_refl _, fun _ _ _ => rfl⟩
theorem Ch.of_below {l : List Nat} {w w' : World} (h : Below w.heap.size w w') : Ch l w w' := ⟨h.os, h.tape, h.output, h.size, fun k hk _ => h.block k hk⟩
theorem Ch.of_wr {l : List Nat} {bw bb : Nat} {w w' : World} (h : Wr bw bb w w') (h1 : bw ∈ l) (h2 : bb ∈ l) : Ch l w w' := ⟨h.os, h.tape, h.output, h.size, fun k hk hn => h.block k hk (fun e => hn (e ▸ h1)) (fun e => hn (e ▸ h2))⟩
theorem Ch.trans {l : List Nat} {a b c : World} (h : Ch l a b) (k : Ch l b c) : Ch l a c :=
  ⟨k.os.trans h.os, k.tape.trans h.tape, k.output.trans h.output, Nat.le_trans h.size k.size, fun i hi hn => (k.block i (Nat.lt_of_lt_of_le hi h.size) hn).trans (h.block i hi hn)⟩
theorem Ch.more {l l' : List Nat} {w w' : World} (h : Ch l w w') (hl : ∀ k ∈ l, k ∈ l') : Ch l' w w' := ⟨h.os, h.tape, h.output, h.size, fun k hk hn => h.block k hk (fun hm => hn (hl k hm))⟩
theorem Ch.setCell {l : List Nat} {a w : World} (h : Ch l a w) {q : Addr} (hq : q.block ∈ l) (v : Value) : Ch l a (w.setCell q v) :=
  ⟨h.os, h.tape, h.output, Nat.le_trans h.size (by simp), fun k hk hn => (heap_setCell_other w q k v (fun e => hn (e ▸ hq))).trans (h.block k hk hn)⟩
theorem Ch.below {l : List Nat} {B : Nat} {a w w' : World} (hb : Below B a w) (h : Ch l w w') (hB : B ≤ w.heap.size) (hl : ∀ k ∈ l, B ≤ k) : Below B a w' :=
  hb.trans ⟨h.os, h.tape, h.output, h.size, fun k hk => h.block k (by omega) (fun hm => by have := hl k hm; omega)⟩
theorem At.ch {w w' : World} {b : Nat} {l : List Nat} {cs : Array Value} {t : TypeId} (h : At w b cs t) (hw : Ch l w w') (hn : b ∉ l) : At w' b cs t := (hw.block b h.lt hn).trans h
theorem IsMem.ch {w w' : World} {m bw bb : Nat} {l : List Nat} {W B : List Int} (h : IsMem w m bw bb W B) (hw : Ch l w w') (h1 : m ∉ l) (h2 : bw ∉ l) (h3 : bb ∉ l) : IsMem w' m bw bb W B :=
  ⟨h.top.ch hw h1, h.words.ch hw h2, h.bytes.ch hw h3, h.wlen, h.blen, h.wwf, h.bwf⟩

set_option maxHeartbeats 1000000 in
theorem ways_do (ws m bw bb : Nat) (W B : List Int) (s k t a b : Int) (w : World) (A : At w ws #[.pointer (some ⟨m, 0, none⟩), .int .i64 s] 86) (M : IsMem w m bw bb W B) (s0 : 0 ≤ s) (s1 : s ≤ 1000000)
    (k0 : 0 ≤ k) (k1 : k ≤ 255) (a0 : 0 ≤ a) (a1 : a < 18446744073709551616) (b0 : 0 ≤ b) (b1 : b < 18446744073709551616) :
    Calls Try.prog 47 #[.pointer (some ⟨ws, 0, none⟩), .int .u8 k, .int .i64 t, .int .u64 a, .int .u64 b] w fun e w' => e = .returned (.int .u64 (tD W B k t a)) ∧ At w' ws #[.pointer (some ⟨m, 0, none⟩), .int .i64 (s + 1)] 86 ∧ IsMem w' m bw bb (wD W k t a b) (bD B k t a) ∧ Ch [ws, bw, bb] w w' := by
  have c0 := A.cell 0 rfl
  have c1 := A.cell 1 rfl
  have f1 := frozen_of_row _ _ 1 _ _ A
  have hs : IntKind.i64.wrap (s + 1) = s + 1 := IntWalk.i64_in _ (by omega)
  have n1 : ws ≠ m := A.ne M.top (by decide)
  have n2 : ws ≠ bw := A.ne M.words (by decide)
  have n3 : ws ≠ bb := A.ne M.bytes (by decide)
  have D := Lib.hid (fun w M => do_any m bw bb W B k t a b w M k0 k1 a0 a1 b0 b1)
  clear k0 k1 a0 a1 b0 b1
  go_enter Try.func47, Try.ntmps47
  go_wp2_with fail
  have h1 : Ch [ws] w (w.setCell ⟨ws, 1, none⟩ (.int .i64 (s + 1))) := (Ch.refl _ w).setCell (by simp) _
  have M1 := M.ch h1 (by simpa using n1.symm) (by simpa using n2.symm) (by simpa using n3.symm)
  have A1 : At (w.setCell ⟨ws, 1, none⟩ (.int .i64 (s + 1))) ws #[.pointer (some ⟨m, 0, none⟩), .int .i64 (s + 1)] 86 := heap_setCell_same w ws 1 _ 86 (.int .i64 (s + 1)) A
  refine (D.out _ M1).mono ?_
  rintro e w1 ⟨rfl, M2, hw⟩
  go_wp2_with fail
  go_ret
  exact ⟨rfl, A1.wr hw n2 n3, M2, (h1.more (by simp)).trans (Ch.of_wr hw (by simp) (by simp))⟩

theorem way_any (d ws : Nat) (self told : Value) (w : World) (A : At w d #[.pointer (some ⟨ws, 0, none⟩), self, told] 89) :
    Calls Try.prog 46 #[.pointer (some ⟨d, 0, none⟩)] w fun e w' => e = .returned (.pointer (some ⟨ws, 0, none⟩)) ∧ w' = w := by
  have c0 := A.cell 0 rfl
  go_enter Try.func46, Try.ntmps46
  go_wp2_with fail
  go_ret
  exact ⟨rfl, rfl⟩
end Go.Proofs.Ytmdagppeeejikaa
