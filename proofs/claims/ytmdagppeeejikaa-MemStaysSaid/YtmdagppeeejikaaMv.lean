/- Accesses that came in; a load leaves all as it was. Condition: the numbers fit their kinds. -/
import Derived.Test.YtmdagppeeejikaaMp
namespace Go.Proofs.Ytmdagppeeejikaa
open Go.RowKit
set_option linter.unusedVariables false

structure Acc where
  k : Int
  t : Int
  a : Int
  b : Int
/-- an access that fits its kinds -/
structure AccOk (x : Acc) : Prop where
  k0 : 0 ≤ x.k
  k1 : x.k ≤ 255
  t0 : -9223372036854775808 ≤ x.t
  t1 : x.t ≤ 9223372036854775807
  a0 : 0 ≤ x.a
  a1 : x.a < 18446744073709551616
  b0 : 0 ≤ x.b
  b1 : x.b < 18446744073709551616
/-- the four cells of an access -/
structure AccAt (w : World) (b o : Nat) (x : Acc) : Prop where
  c0 : w.cell? ⟨b, o, none⟩ = some (.int .u8 x.k)
  c1 : w.cell? ⟨b, o + 1, none⟩ = some (.int .i64 x.t)
  c2 : w.cell? ⟨b, o + 2, none⟩ = some (.int .u64 x.a)
  c3 : w.cell? ⟨b, o + 3, none⟩ = some (.int .u64 x.b)
/-- accesses that came in, an element at a time -/
structure ARow (w : World) (ao : Option Addr) (n : Nat) (X : Nat → Acc) : Prop where
  len : n ≤ 9223372036854775807
  ok : ∀ i, i < n → AccOk (X i)
  row : ∀ i, i < n → ∃ b off, ao = some ⟨b, off, none⟩ ∧ b < w.heap.size ∧ AccAt w b (off + i * 4) (X i)
theorem AccAt.below {w w' : World} {b o : Nat} {x : Acc} (h : AccAt w b o x) (hlt : b < w.heap.size) (hb : Below w.heap.size w w') : AccAt w' b o x :=
  ⟨(hb.cell (p := ⟨b, o, none⟩) hlt).trans h.c0, (hb.cell (p := ⟨b, o + 1, none⟩) hlt).trans h.c1, (hb.cell (p := ⟨b, o + 2, none⟩) hlt).trans h.c2, (hb.cell (p := ⟨b, o + 3, none⟩) hlt).trans h.c3⟩
theorem ARow.below {w w' : World} {ao : Option Addr} {n : Nat} {X : Nat → Acc} (h : ARow w ao n X) (hb : Below w.heap.size w w') : ARow w' ao n X :=
  ⟨h.len, h.ok, fun i hi => by obtain ⟨b, off, ha, hlt, hc⟩ := h.row i hi; exact ⟨b, off, ha, Nat.lt_of_lt_of_le hlt hb.size, hc.below hlt hb⟩⟩

theorem wr_same {w w' : World} {p bw bb : Nat} {W B : List Int} (h : IsMem w p bw bb W B) (h' : IsMem w' p bw bb W B) (hw : Wr bw bb w w') : Below w.heap.size w w' :=
  ⟨hw.os, hw.tape, hw.output, hw.size, fun k hk => by
    by_cases h1 : k = bw
    · subst h1; exact h'.words.trans h.words.symm
    by_cases h2 : k = bb
    · subst h2; exact h'.bytes.trans h.bytes.symm
    exact hw.block k hk h1 h2⟩
theorem word_below (p bw bb : Nat) (W B : List Int) (t : Int) (w : World) (M : IsMem w p bw bb W B) :
    Calls Try.prog 16 #[.pointer (some ⟨p, 0, none⟩), .int .i64 t] w fun e w' => e = .returned (.int .u64 (at0 W t)) ∧ Below w.heap.size w w' :=
  (word_any p bw bb W B t w M).mono fun _ _ ⟨he, m, hw⟩ => ⟨he, wr_same M m hw⟩
theorem byte_below (p bw bb : Nat) (W B : List Int) (t : Int) (w : World) (M : IsMem w p bw bb W B) :
    Calls Try.prog 23 #[.pointer (some ⟨p, 0, none⟩), .int .i64 t] w fun e w' => e = .returned (.int .u8 (at0 B t)) ∧ Below w.heap.size w w' :=
  (byte_any p bw bb W B t w M).mono fun _ _ ⟨he, m, hw⟩ => ⟨he, wr_same M m hw⟩
theorem at0_in (L : List Int) (i : Nat) (h : i < L.length) : at0 L i = L.getD i 0 := by simp [at0, h]
theorem wD_len (W : List Int) (k t a b : Int) : (wD W k t a b).length = W.length := by unfold wD; split <;> simp
theorem bD_len (B : List Int) (k t a : Int) : (bD B k t a).length = B.length := by unfold bD; split <;> simp

theorem great_no (ao : Option Addr) (n c : Nat) (w : World) (h : ¬ 60 < n) : Calls Try.prog 18 #[.slice ao n c] w fun e w' => e = .returned (.bool false) ∧ w' = w := by
  go_enter Try.func18, Try.ntmps18
  go_wp2_with fail
  go_ret
  exact ⟨by simp; omega, rfl⟩
theorem great_yes (ao : Option Addr) (n c : Nat) (w : World) (h : 60 < n) : Calls Try.prog 18 #[.slice ao n c] w fun e w' => e = .returned (.bool true) ∧ w' = w := by
  go_enter Try.func18, Try.ntmps18
  go_wp2_with fail
  go_ret
  exact ⟨by simp; omega, rfl⟩
end Go.Proofs.Ytmdagppeeejikaa
