/- What the laws hold of a memory of their own; tells; awake. Condition: the numbers fit their kinds. -/
import Derived.Test.YtmdagppeeejikaaMd
namespace Go.Proofs.Ytmdagppeeejikaa
open Go.RowKit
set_option linter.unusedVariables false

/-- a memory that was made behind w0; what w0 held is as it was -/
structure Hold (w0 w : World) (p bw bb : Nat) (W B : List Int) : Prop where
  mem : IsMem w p bw bb W B
  below : Below w0.heap.size w0 w
  lp : w0.heap.size ≤ p
  lw : w0.heap.size ≤ bw
  lb : w0.heap.size ≤ bb
theorem Hold.wr {w0 w w' : World} {p bw bb : Nat} {W B W' B' : List Int} (h : Hold w0 w p bw bb W B) (m : IsMem w' p bw bb W' B') (hw : Wr bw bb w w') : Hold w0 w' p bw bb W' B' :=
  ⟨m, hw.below h.below h.below.size h.lw h.lb, h.lp, h.lw, h.lb⟩
theorem Hold.after {w0 w w' : World} {p bw bb : Nat} {W B : List Int} (h : Hold w0 w p bw bb W B) (hb : Below w.heap.size w w') : Hold w0 w' p bw bb W B :=
  ⟨h.mem.below hb, bnext h.below hb, h.lp, h.lw, h.lb⟩
/-- the memory that another one was made behind: as it was -/
theorem Hold.from {w0 w w' : World} {p bw bb : Nat} {W B : List Int} (h : Hold w w' p bw bb W B) (hb : Below w0.heap.size w0 w) : Hold w0 w' p bw bb W B :=
  ⟨h.mem, bnext hb h.below, Nat.le_trans hb.size h.lp, Nat.le_trans hb.size h.lw, Nat.le_trans hb.size h.lb⟩

theorem hold_do {w0 w : World} {p bw bb : Nat} {W B : List Int} (H : Hold w0 w p bw bb W B) (k t a b : Int) (k0 : 0 ≤ k) (k1 : k ≤ 255) (a0 : 0 ≤ a) (a1 : a < 18446744073709551616) (b0 : 0 ≤ b) (b1 : b < 18446744073709551616) :
    Calls Try.prog 15 #[.pointer (some ⟨p, 0, none⟩), .agg #[.int .u8 k, .int .i64 t, .int .u64 a, .int .u64 b]] w fun e w' => e = .returned (.tuple #[.int .u64 (tD W B k t a), .bool (okD W B k t)]) ∧ Hold w0 w' p bw bb (wD W k t a b) (bD B k t a) :=
  (do_any p bw bb W B k t a b w H.mem k0 k1 a0 a1 b0 b1).mono fun _ _ ⟨he, m, hw⟩ => ⟨he, H.wr m hw⟩
theorem hold_word {w0 w : World} {p bw bb : Nat} {W B : List Int} (H : Hold w0 w p bw bb W B) (t : Int) :
    Calls Try.prog 16 #[.pointer (some ⟨p, 0, none⟩), .int .i64 t] w fun e w' => e = .returned (.int .u64 (at0 W t)) ∧ Hold w0 w' p bw bb W B :=
  (word_any p bw bb W B t w H.mem).mono fun _ _ ⟨he, m, hw⟩ => ⟨he, H.wr m hw⟩
theorem hold_byte {w0 w : World} {p bw bb : Nat} {W B : List Int} (H : Hold w0 w p bw bb W B) (t : Int) :
    Calls Try.prog 23 #[.pointer (some ⟨p, 0, none⟩), .int .i64 t] w fun e w' => e = .returned (.int .u8 (at0 B t)) ∧ Hold w0 w' p bw bb W B :=
  (byte_any p bw bb W B t w H.mem).mono fun _ _ ⟨he, m, hw⟩ => ⟨he, H.wr m hw⟩
/-- what New leaves -/
def NewHold (n k : Nat) (w0 : World) (e : Ending) (w' : World) : Prop := ∃ p bw bb, e = .returned (.tuple #[.pointer (some ⟨p, 0, none⟩), .int .i64 0]) ∧ Hold w0 w' p bw bb (zeros n) (zeros k)
theorem hold_new {w0 w : World} (hb : Below w0.heap.size w0 w) (n k : Nat) (h1 : n ≤ 2097152) (h2 : k ≤ 1048576) :
    Calls Try.prog 14 #[.int .i64 n, .int .i64 k] w (NewHold n k w0) :=
  (new_yes n k w h1 h2).mono fun _ _ ⟨p, bw, bb, he, m, b, l1, l2, l3⟩ => ⟨p, bw, bb, he, m, bnext hb b, Nat.le_trans hb.size l1, Nat.le_trans hb.size l2, Nat.le_trans hb.size l3⟩

set_option maxHeartbeats 1000000 in
theorem hold_tells {w0 w : World} {p bw bb : Nat} {W B : List Int} (H : Hold w0 w p bw bb W B) (k t a b x : Int) (k0 : 0 ≤ k) (k1 : k ≤ 255) (a0 : 0 ≤ a) (a1 : a < 18446744073709551616) (b0 : 0 ≤ b) (b1 : b < 18446744073709551616) :
    Calls Try.prog 34 #[.pointer (some ⟨p, 0, none⟩), .int .u8 k, .int .i64 t, .int .u64 a, .int .u64 b, .int .u64 x] w fun e w' => e = .returned (.bool (okD W B k t && tD W B k t a == x)) ∧ Hold w0 w' p bw bb (wD W k t a b) (bD B k t a) := by
  have C := Lib.hid (hold_do H k t a b k0 k1 a0 a1 b0 b1)
  generalize tD W B k t a = y at *
  cases hok : okD W B k t
  · rw [hok] at C
    clear hok H
    go_enter Try.func34, Try.ntmps34
    go_wp2_with fail
    refine C.out.mono ?_
    rintro e w1 ⟨rfl, H1⟩
    go_wp2_with fail
    go_ret
    exact ⟨by simp, H1⟩
  · rw [hok] at C
    clear hok H
    go_enter Try.func34, Try.ntmps34
    go_wp2_with fail
    refine C.out.mono ?_
    rintro e w1 ⟨rfl, H1⟩
    go_wp2_with fail
    go_ret
    exact ⟨by simp, H1⟩

set_option maxHeartbeats 1000000 in
theorem awake_any (w : World) : Calls Try.prog 17 #[] w fun e w' => e = .returned (.bool true) ∧ Below w.heap.size w w' := by
  have z4 : zeros 4 = [0, 0, 0, 0] := rfl
  have z2 : zeros 2 = [0, 0] := rfl
  have l0 : ∀ b, tD [0, 0, 0, 0] b 1 4 0 = 0 ∧ wD [0, 0, 0, 0] 1 4 0 0 = [0, 0, 0, 0] := fun b => ⟨by rw [tD_load]; decide, by decide⟩
  have N := Lib.hid (hold_new (Below.refl w.heap.size w) 4 2 (by decide) (by decide))
  clear z4 z2 l0
  go_enter Try.func17, Try.ntmps17
  go_wp2_with fail
  refine N.out.mono ?_
  rintro e w1 ⟨p, bw, bb, rfl, H⟩
  go_wp2_with fail
  refine (hold_do H 1 4 0 0 (by decide) (by decide) (by decide) (by decide) (by decide) (by decide)).mono ?_
  rintro e w2 ⟨rfl, H2⟩
  rw [show wD (zeros 4) 1 4 0 0 = [0, 0, 0, 0] from by decide, show bD (zeros 2) 1 4 0 = [0, 0] from by decide] at H2
  rw [show tD (zeros 4) (zeros 2) 1 4 0 = 0 from by decide, show okD (zeros 4) (zeros 2) 1 4 = false from by decide]
  go_wp2_with fail
  refine (hold_tells H2 2 3 7 0 0 (by decide) (by decide) (by decide) (by decide) (by decide) (by decide)).mono ?_
  rintro e w3 ⟨rfl, H3⟩
  rw [show wD [0, 0, 0, 0] 2 3 7 0 = [0, 0, 0, 7] from by decide, show bD [0, 0] 2 3 7 = [0, 0] from by decide] at H3
  rw [show (okD [0, 0, 0, 0] [0, 0] 2 3 && tD [0, 0, 0, 0] [0, 0] 2 3 7 == 0) = true from by decide]
  go_wp2_with fail
  refine (hold_tells H3 3 3 7 9 1 (by decide) (by decide) (by decide) (by decide) (by decide) (by decide)).mono ?_
  rintro e w4 ⟨rfl, H4⟩
  rw [show wD [0, 0, 0, 7] 3 3 7 9 = [0, 0, 0, 9] from by decide, show bD [0, 0] 3 3 7 = [0, 0] from by decide] at H4
  rw [show (okD [0, 0, 0, 7] [0, 0] 3 3 && tD [0, 0, 0, 7] [0, 0] 3 3 7 == 1) = true from by decide]
  go_wp2_with fail
  refine (hold_tells H4 3 3 7 8 0 (by decide) (by decide) (by decide) (by decide) (by decide) (by decide)).mono ?_
  rintro e w5 ⟨rfl, H5⟩
  rw [show wD [0, 0, 0, 9] 3 3 7 8 = [0, 0, 0, 9] from by decide, show bD [0, 0] 3 3 7 = [0, 0] from by decide] at H5
  rw [show (okD [0, 0, 0, 9] [0, 0] 3 3 && tD [0, 0, 0, 9] [0, 0] 3 3 7 == 0) = true from by decide]
  go_wp2_with fail
  refine (hold_tells H5 4 3 2 0 9 (by decide) (by decide) (by decide) (by decide) (by decide) (by decide)).mono ?_
  rintro e w6 ⟨rfl, H6⟩
  rw [show wD [0, 0, 0, 9] 4 3 2 0 = [0, 0, 0, 11] from by decide, show bD [0, 0] 4 3 2 = [0, 0] from by decide] at H6
  rw [show (okD [0, 0, 0, 9] [0, 0] 4 3 && tD [0, 0, 0, 9] [0, 0] 4 3 2 == 9) = true from by decide]
  go_wp2_with fail
  refine (hold_tells H6 1 3 0 0 11 (by decide) (by decide) (by decide) (by decide) (by decide) (by decide)).mono ?_
  rintro e w7 ⟨rfl, H7⟩
  rw [show wD [0, 0, 0, 11] 1 3 0 0 = [0, 0, 0, 11] from by decide, show bD [0, 0] 1 3 0 = [0, 0] from by decide] at H7
  rw [show (okD [0, 0, 0, 11] [0, 0] 1 3 && tD [0, 0, 0, 11] [0, 0] 1 3 0 == 11) = true from by decide]
  go_wp2_with fail
  refine (hold_tells H7 6 1 511 0 0 (by decide) (by decide) (by decide) (by decide) (by decide) (by decide)).mono ?_
  rintro e w8 ⟨rfl, H8⟩
  rw [show wD [0, 0, 0, 11] 6 1 511 0 = [0, 0, 0, 11] from by decide, show bD [0, 0] 6 1 511 = [0, 255] from by decide] at H8
  rw [show (okD [0, 0, 0, 11] [0, 0] 6 1 && tD [0, 0, 0, 11] [0, 0] 6 1 511 == 0) = true from by decide]
  go_wp2_with fail
  refine (hold_tells H8 5 1 0 0 255 (by decide) (by decide) (by decide) (by decide) (by decide) (by decide)).mono ?_
  rintro e w9 ⟨rfl, H9⟩
  rw [show (okD [0, 0, 0, 11] [0, 255] 5 1 && tD [0, 0, 0, 11] [0, 255] 5 1 0 == 255) = true from by decide]
  go_wp2_with fail
  go_ret
  exact ⟨rfl, H9.below⟩
end Go.Proofs.Ytmdagppeeejikaa
