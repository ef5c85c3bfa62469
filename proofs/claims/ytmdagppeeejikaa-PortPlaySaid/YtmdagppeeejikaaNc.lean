/- What the laws hold of a port of their own; awake. Condition: the numbers fit their kinds. -/
import Derived.Test.YtmdagppeeejikaaNb
namespace Go.Proofs.Ytmdagppeeejikaa
open Go.RowKit
set_option linter.unusedVariables false

/-- a port and a memory that were made behind w0; what w0 held is as it was -/
structure PH (w0 w : World) (d ws m bw bb : Nat) (sf s : Int) (told : Value) (W B : List Int) : Prop where
  port : IsPort w d ws m sf s told
  mem : IsMem w m bw bb W B
  below : Below w0.heap.size w0 w
  ls : w0.heap.size ≤ ws
  lw : w0.heap.size ≤ bw
  lb : w0.heap.size ≤ bb
  ld : w0.heap.size ≤ d
theorem PH.after {w0 w w' : World} {d ws m bw bb : Nat} {sf s : Int} {told : Value} {W B : List Int} (h : PH w0 w d ws m bw bb sf s told W B) (hb : Below w.heap.size w w') : PH w0 w' d ws m bw bb sf s told W B :=
  ⟨h.port.below hb, h.mem.below hb, bnext h.below hb, h.ls, h.lw, h.lb, h.ld⟩
theorem PH.step {w0 w w' : World} {d ws m bw bb : Nat} {sf s : Int} {told : Value} {W B : List Int} {k t a b : Int} (h : PH w0 w d ws m bw bb sf s told W B) (hd : PDo d ws m bw bb sf s told W B k t a b w w') : PH w0 w' d ws m bw bb sf (s + 1) told (wD W k t a b) (bD B k t a) :=
  ⟨hd.port, hd.mem, Ch.below h.below hd.ch h.below.size (by intro k hk; simp at hk; rcases hk with rfl | rfl | rfl; exact h.ls; exact h.lw; exact h.lb), h.ls, h.lw, h.lb, h.ld⟩
theorem PH.made {w0 w w' : World} {d ws m bw bb : Nat} {sf : Int} {W B : List Int} (H : Hold w0 w m bw bb W B) (P : IsPort w' d ws m sf 0 (.pointer none)) (hb : Below w.heap.size w w') (l1 : w.heap.size ≤ d) (l2 : w.heap.size ≤ ws) : PH w0 w' d ws m bw bb sf 0 (.pointer none) W B :=
  ⟨P, H.mem.below hb, bnext H.below hb, Nat.le_trans H.below.size l2, H.lw, H.lb, Nat.le_trans H.below.size l1⟩

set_option maxHeartbeats 1000000 in
theorem awake4_any (w : World) : Calls Try.prog 24 #[] w fun e w' => e = .returned (.bool true) ∧ Below w.heap.size w w' := by
  go_enter Try.func24, Try.ntmps24
  go_wp2_with fail
  refine (of_any (Below.refl _ w) 4 8 (by decide) (by decide)).mono ?_
  rintro e w1 ⟨m, bw, bb, rfl, H0⟩
  go_wp2_with fail
  refine (p_new m 3 _).mono ?_
  rintro e w2 ⟨d, ws, rfl, P, b, l1, l2⟩
  have H := PH.made H0 P b l1 l2
  clear P b l1 l2 H0
  go_wp2_with fail
  refine (p_store 1 5 _ H.port H.mem (by decide) (by decide) (by decide) (by decide)).mono ?_
  rintro e w3 ⟨rfl, D⟩
  replace H := H.step D
  rw [show wD (zeros 4) 2 1 5 0 = [0, 5, 0, 0] from by decide, show bD (zeros 8) 2 1 5 = zeros 8 from by decide] at H
  clear D
  go_wp2_with fail
  refine (p_cas 1 5 7 _ H.port H.mem (by decide) (by decide) (by decide) (by decide) (by decide) (by decide)).mono ?_
  rintro e w4 ⟨rfl, D⟩
  replace H := H.step D
  rw [show wD [0, 5, 0, 0] 3 1 5 7 = [0, 7, 0, 0] from by decide, show bD (zeros 8) 3 1 5 = zeros 8 from by decide] at H
  rw [show (tD [0, 5, 0, 0] (zeros 8) 3 1 5 == 1) = true from by decide]
  clear D
  go_wp2_with fail
  refine (p_cas 1 5 9 _ H.port H.mem (by decide) (by decide) (by decide) (by decide) (by decide) (by decide)).mono ?_
  rintro e w5 ⟨rfl, D⟩
  replace H := H.step D
  rw [show wD [0, 7, 0, 0] 3 1 5 9 = [0, 7, 0, 0] from by decide, show bD (zeros 8) 3 1 5 = zeros 8 from by decide] at H
  rw [show (tD [0, 7, 0, 0] (zeros 8) 3 1 5 == 1) = false from by decide]
  clear D
  go_wp2_with fail
  refine (p_add 1 3 _ H.port H.mem (by decide) (by decide) (by decide) (by decide)).mono ?_
  rintro e w6 ⟨rfl, D⟩
  replace H := H.step D
  rw [show wD [0, 7, 0, 0] 4 1 3 0 = [0, 10, 0, 0] from by decide, show bD (zeros 8) 4 1 3 = zeros 8 from by decide] at H
  rw [show tD [0, 7, 0, 0] (zeros 8) 4 1 3 = 7 from by decide]
  clear D
  go_wp2_with fail
  refine (p_load 1 _ H.port H.mem (by decide) (by decide)).mono ?_
  rintro e w7 ⟨rfl, D⟩
  replace H := H.step D
  rw [show tD [0, 10, 0, 0] (zeros 8) 1 1 0 = 10 from by decide]
  clear D
  go_wp2_with fail
  refine (p_steps _ H.port).mono ?_
  rintro e w8 ⟨rfl, hw⟩
  have hw := hw.symm
  subst hw
  go_wp2_with fail
  refine (p_self _ H.port).mono ?_
  rintro e w8 ⟨rfl, hw⟩
  have hw := hw.symm
  subst hw
  go_wp2_with fail
  go_ret
  exact ⟨rfl, H.below⟩
end Go.Proofs.Ytmdagppeeejikaa
