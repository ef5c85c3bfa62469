/- A port's accesses, by their numbers. Condition: the numbers fit their kinds. -/
import Derived.Test.YtmdagppeeejikaaNa
namespace Go.Proofs.Ytmdagppeeejikaa
open Go.RowKit
set_option linter.unusedVariables false

/-- block d is a port to the memory m: s steps were done; told: what was told last -/
structure IsPort (w : World) (d ws m : Nat) (sf s : Int) (told : Value) : Prop where
  top : At w d #[.pointer (some ⟨ws, 0, none⟩), .int .i64 sf, told] 89
  ways : At w ws #[.pointer (some ⟨m, 0, none⟩), .int .i64 s] 86
theorem IsPort.ne {w : World} {d ws m : Nat} {sf s : Int} {told : Value} (h : IsPort w d ws m sf s told) : d ≠ ws := h.top.ne h.ways (by decide)
theorem IsPort.ch {w w' : World} {d ws m : Nat} {sf s : Int} {told : Value} {l : List Nat} (h : IsPort w d ws m sf s told) (hw : Ch l w w') (h1 : d ∉ l) (h2 : ws ∉ l) : IsPort w' d ws m sf s told := ⟨h.top.ch hw h1, h.ways.ch hw h2⟩
theorem IsPort.below {w w' : World} {d ws m : Nat} {sf s : Int} {told : Value} (h : IsPort w d ws m sf s told) (hb : Below w.heap.size w w') : IsPort w' d ws m sf s told := ⟨h.top.below hb, h.ways.below hb⟩
/-- what an access leaves -/
structure PDo (d ws m bw bb : Nat) (sf s : Int) (told : Value) (W B : List Int) (k t a b : Int) (w w' : World) : Prop where
  port : IsPort w' d ws m sf (s + 1) told
  mem : IsMem w' m bw bb (wD W k t a b) (bD B k t a)
  ch : Ch [ws, bw, bb] w w'
theorem port_fin {d ws m bw bb : Nat} {sf s : Int} {told : Value} {W B : List Int} {k t a b : Int} {w w' : World} (H : IsPort w d ws m sf s told) (M : IsMem w m bw bb W B) (A : At w' ws #[.pointer (some ⟨m, 0, none⟩), .int .i64 (s + 1)] 86) (M' : IsMem w' m bw bb (wD W k t a b) (bD B k t a)) (c : Ch [ws, bw, bb] w w') : PDo d ws m bw bb sf s told W B k t a b w w' := by
  have n1 := H.ne
  have n2 : d ≠ bw := H.top.ne M.words (by decide)
  have n3 : d ≠ bb := H.top.ne M.bytes (by decide)
  exact ⟨⟨H.top.ch c (by simp [n1, n2, n3]), A⟩, M', c⟩

set_option maxHeartbeats 1000000 in
theorem p_load {d ws m bw bb : Nat} {sf s : Int} {told : Value} {W B : List Int} (t : Int) (w : World) (H : IsPort w d ws m sf s told) (M : IsMem w m bw bb W B) (s0 : 0 ≤ s) (s1 : s ≤ 1000000)  :
    Calls Try.prog 30 #[.pointer (some ⟨d, 0, none⟩), .int .i64 t] w fun e w' => e = .returned (.int .u64 (tD W B 1 t 0)) ∧ PDo d ws m bw bb sf s told W B 1 t 0 0 w w' := by
  have C1 := Lib.hid (way_any d ws (.int .i64 sf) told w H.top)
  have C2 := Lib.hid (ways_do ws m bw bb W B s 1 t 0 0 w H.ways M s0 s1 (by omega) (by omega) (by omega) (by omega) (by omega) (by omega))
  have HH := Lib.hid H
  have HM := Lib.hid M
  clear s0 s1 H M
  generalize tD W B 1 t 0 = y at *
  go_enter Try.func30, Try.ntmps30
  go_wp2_with fail
  refine C1.out.mono ?_
  rintro e w1 ⟨rfl, hw1⟩
  have hw1 := hw1.symm
  subst hw1
  go_wp2_with fail
  refine C2.out.mono ?_
  rintro e w1 ⟨rfl, A, M', c⟩
  replace M' := Lib.hid M'
  replace A := Lib.hid A
  replace c := Lib.hid c
  go_wp2_with fail
  go_ret
  exact ⟨by first | rfl | simp, port_fin HH.out HM.out A.out M'.out c.out⟩

set_option maxHeartbeats 1000000 in
theorem p_store {d ws m bw bb : Nat} {sf s : Int} {told : Value} {W B : List Int} (t a : Int) (w : World) (H : IsPort w d ws m sf s told) (M : IsMem w m bw bb W B) (s0 : 0 ≤ s) (s1 : s ≤ 1000000) (a0 : 0 ≤ a) (a1 : a < 18446744073709551616) :
    Calls Try.prog 27 #[.pointer (some ⟨d, 0, none⟩), .int .i64 t, .int .u64 a] w fun e w' => e = .returned (.tuple #[]) ∧ PDo d ws m bw bb sf s told W B 2 t a 0 w w' := by
  have C1 := Lib.hid (way_any d ws (.int .i64 sf) told w H.top)
  have C2 := Lib.hid (ways_do ws m bw bb W B s 2 t a 0 w H.ways M s0 s1 (by omega) (by omega) (by omega) (by omega) (by omega) (by omega))
  have HH := Lib.hid H
  have HM := Lib.hid M
  clear s0 s1 H M
  generalize tD W B 2 t a = y at *
  go_enter Try.func27, Try.ntmps27
  go_wp2_with fail
  refine C1.out.mono ?_
  rintro e w1 ⟨rfl, hw1⟩
  have hw1 := hw1.symm
  subst hw1
  go_wp2_with fail
  refine C2.out.mono ?_
  rintro e w1 ⟨rfl, A, M', c⟩
  replace M' := Lib.hid M'
  replace A := Lib.hid A
  replace c := Lib.hid c
  go_wp2_with fail
  go_end0
  exact ⟨by first | rfl | simp, port_fin HH.out HM.out A.out M'.out c.out⟩

set_option maxHeartbeats 1000000 in
theorem p_cas {d ws m bw bb : Nat} {sf s : Int} {told : Value} {W B : List Int} (t a b : Int) (w : World) (H : IsPort w d ws m sf s told) (M : IsMem w m bw bb W B) (s0 : 0 ≤ s) (s1 : s ≤ 1000000) (a0 : 0 ≤ a) (a1 : a < 18446744073709551616) (b0 : 0 ≤ b) (b1 : b < 18446744073709551616) :
    Calls Try.prog 29 #[.pointer (some ⟨d, 0, none⟩), .int .i64 t, .int .u64 a, .int .u64 b] w fun e w' => e = .returned (.bool (tD W B 3 t a == 1)) ∧ PDo d ws m bw bb sf s told W B 3 t a b w w' := by
  have C1 := Lib.hid (way_any d ws (.int .i64 sf) told w H.top)
  have C2 := Lib.hid (ways_do ws m bw bb W B s 3 t a b w H.ways M s0 s1 (by omega) (by omega) (by omega) (by omega) (by omega) (by omega))
  have HH := Lib.hid H
  have HM := Lib.hid M
  clear s0 s1 H M
  generalize tD W B 3 t a = y at *
  go_enter Try.func29, Try.ntmps29
  go_wp2_with fail
  refine C1.out.mono ?_
  rintro e w1 ⟨rfl, hw1⟩
  have hw1 := hw1.symm
  subst hw1
  go_wp2_with fail
  refine C2.out.mono ?_
  rintro e w1 ⟨rfl, A, M', c⟩
  replace M' := Lib.hid M'
  replace A := Lib.hid A
  replace c := Lib.hid c
  go_wp2_with fail
  go_ret
  exact ⟨by first | rfl | simp, port_fin HH.out HM.out A.out M'.out c.out⟩

set_option maxHeartbeats 1000000 in
theorem p_add {d ws m bw bb : Nat} {sf s : Int} {told : Value} {W B : List Int} (t a : Int) (w : World) (H : IsPort w d ws m sf s told) (M : IsMem w m bw bb W B) (s0 : 0 ≤ s) (s1 : s ≤ 1000000) (a0 : 0 ≤ a) (a1 : a < 18446744073709551616) :
    Calls Try.prog 28 #[.pointer (some ⟨d, 0, none⟩), .int .i64 t, .int .u64 a] w fun e w' => e = .returned (.int .u64 (tD W B 4 t a)) ∧ PDo d ws m bw bb sf s told W B 4 t a 0 w w' := by
  have C1 := Lib.hid (way_any d ws (.int .i64 sf) told w H.top)
  have C2 := Lib.hid (ways_do ws m bw bb W B s 4 t a 0 w H.ways M s0 s1 (by omega) (by omega) (by omega) (by omega) (by omega) (by omega))
  have HH := Lib.hid H
  have HM := Lib.hid M
  clear s0 s1 H M
  generalize tD W B 4 t a = y at *
  go_enter Try.func28, Try.ntmps28
  go_wp2_with fail
  refine C1.out.mono ?_
  rintro e w1 ⟨rfl, hw1⟩
  have hw1 := hw1.symm
  subst hw1
  go_wp2_with fail
  refine C2.out.mono ?_
  rintro e w1 ⟨rfl, A, M', c⟩
  replace M' := Lib.hid M'
  replace A := Lib.hid A
  replace c := Lib.hid c
  go_wp2_with fail
  go_ret
  exact ⟨by first | rfl | simp, port_fin HH.out HM.out A.out M'.out c.out⟩

set_option maxHeartbeats 1000000 in
theorem p_get {d ws m bw bb : Nat} {sf s : Int} {told : Value} {W B : List Int} (t : Int) (w : World) (H : IsPort w d ws m sf s told) (M : IsMem w m bw bb W B) (s0 : 0 ≤ s) (s1 : s ≤ 1000000)  :
    Calls Try.prog 33 #[.pointer (some ⟨d, 0, none⟩), .int .i64 t] w fun e w' => e = .returned (.int .u8 (IntKind.u8.wrap (tD W B 5 t 0))) ∧ PDo d ws m bw bb sf s told W B 5 t 0 0 w w' := by
  have C1 := Lib.hid (way_any d ws (.int .i64 sf) told w H.top)
  have C2 := Lib.hid (ways_do ws m bw bb W B s 5 t 0 0 w H.ways M s0 s1 (by omega) (by omega) (by omega) (by omega) (by omega) (by omega))
  have HH := Lib.hid H
  have HM := Lib.hid M
  clear s0 s1 H M
  generalize tD W B 5 t 0 = y at *
  go_enter Try.func33, Try.ntmps33
  go_wp2_with fail
  refine C1.out.mono ?_
  rintro e w1 ⟨rfl, hw1⟩
  have hw1 := hw1.symm
  subst hw1
  go_wp2_with fail
  refine C2.out.mono ?_
  rintro e w1 ⟨rfl, A, M', c⟩
  replace M' := Lib.hid M'
  replace A := Lib.hid A
  replace c := Lib.hid c
  go_wp2_with fail
  go_ret
  exact ⟨by first | rfl | simp, port_fin HH.out HM.out A.out M'.out c.out⟩

set_option maxHeartbeats 1000000 in
theorem p_put {d ws m bw bb : Nat} {sf s : Int} {told : Value} {W B : List Int} (t a : Int) (w : World) (H : IsPort w d ws m sf s told) (M : IsMem w m bw bb W B) (s0 : 0 ≤ s) (s1 : s ≤ 1000000) (a0 : 0 ≤ a) (a1 : a < 256) :
    Calls Try.prog 41 #[.pointer (some ⟨d, 0, none⟩), .int .i64 t, .int .u8 a] w fun e w' => e = .returned (.tuple #[]) ∧ PDo d ws m bw bb sf s told W B 6 t a 0 w w' := by
  have C1 := Lib.hid (way_any d ws (.int .i64 sf) told w H.top)
  have C2 := Lib.hid (ways_do ws m bw bb W B s 6 t a 0 w H.ways M s0 s1 (by omega) (by omega) (by omega) (by omega) (by omega) (by omega))
  have HH := Lib.hid H
  have HM := Lib.hid M
  clear s0 s1 H M
  generalize tD W B 6 t a = y at *
  go_enter Try.func41, Try.ntmps41
  go_wp2_with fail
  refine C1.out.mono ?_
  rintro e w1 ⟨rfl, hw1⟩
  have hw1 := hw1.symm
  subst hw1
  go_wp2_with fail
  refine C2.out.mono ?_
  rintro e w1 ⟨rfl, A, M', c⟩
  replace M' := Lib.hid M'
  replace A := Lib.hid A
  replace c := Lib.hid c
  go_wp2_with fail
  go_end0
  exact ⟨by first | rfl | simp, port_fin HH.out HM.out A.out M'.out c.out⟩

theorem p_steps {d ws m : Nat} {sf s : Int} {told : Value} (w : World) (H : IsPort w d ws m sf s told) :
    Calls Try.prog 40 #[.pointer (some ⟨d, 0, none⟩)] w fun e w' => e = .returned (.int .i64 s) ∧ w' = w := by
  have C1 := Lib.hid (way_any d ws (.int .i64 sf) told w H.top)
  have c0 := H.top.cell 0 rfl
  have c1 := H.ways.cell 1 rfl
  go_enter Try.func40, Try.ntmps40
  go_wp2_with fail
  refine C1.out.mono ?_
  rintro e w1 ⟨rfl, hw1⟩
  have hw1 := hw1.symm
  subst hw1
  go_wp2_with fail
  go_ret
  exact ⟨rfl, rfl⟩
theorem p_self {d ws m : Nat} {sf s : Int} {told : Value} (w : World) (H : IsPort w d ws m sf s told) :
    Calls Try.prog 44 #[.pointer (some ⟨d, 0, none⟩)] w fun e w' => e = .returned (.int .i64 sf) ∧ w' = w := by
  have c1 := H.top.cell 1 rfl
  go_enter Try.func44, Try.ntmps44
  go_wp2_with fail
  go_ret
  exact ⟨rfl, rfl⟩
/-- what New leaves -/
def NewPort (m : Nat) (sf : Int) (w : World) (e : Ending) (w' : World) : Prop := ∃ d ws, e = .returned (.pointer (some ⟨d, 0, none⟩)) ∧ IsPort w' d ws m sf 0 (.pointer none) ∧ Below w.heap.size w w' ∧ w.heap.size ≤ d ∧ w.heap.size ≤ ws
theorem p_new (m : Nat) (sf : Int) (w : World) : Calls Try.prog 25 #[.pointer (some ⟨m, 0, none⟩), .int .i64 sf] w (NewPort m sf w) := by
  go_enter Try.func25, Try.ntmps25
  go_wp2_with fail
  go_ret
  refine ⟨_, _, rfl, ⟨?_, ?_⟩, ((Below.refl _ w).alloc (Nat.le_refl _) _).alloc (by simp) _, by simp, Nat.le_refl _⟩
  · have h := At.last (w.alloc (.cells #[.pointer (some ⟨m, 0, none⟩), .int .i64 0] 86)) #[.pointer (some ⟨w.heap.size, 0, none⟩), .int .i64 sf, .pointer none] 89
    rw [show (w.alloc (.cells #[.pointer (some ⟨m, 0, none⟩), .int .i64 0] 86)).heap.size = w.heap.size + 1 from by simp] at h
    exact h
  · exact (At.last w _ _).alloc _
/-- a memory of zeros -/
def OfHold (n k : Nat) (w0 : World) (e : Ending) (w' : World) : Prop := ∃ p bw bb, e = .returned (.pointer (some ⟨p, 0, none⟩)) ∧ Hold w0 w' p bw bb (zeros n) (zeros k)
theorem of_any {w0 w : World} (hb : Below w0.heap.size w0 w) (n k : Nat) (h1 : n ≤ 2097152) (h2 : k ≤ 1048576) :
    Calls Try.prog 26 #[.int .i64 n, .int .i64 k] w (OfHold n k w0) := by
  go_enter Try.func26, Try.ntmps26
  go_wp2_with fail
  refine (hold_new hb n k h1 h2).mono ?_
  rintro e w1 ⟨p, bw, bb, rfl, H⟩
  go_wp2_with fail
  go_ret
  exact ⟨p, bw, bb, rfl, H⟩
end Go.Proofs.Ytmdagppeeejikaa
