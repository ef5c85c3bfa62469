/- The law PortKnown answers true. No condition. -/
import Derived.Test.YtmdagppeeejikaaNi
namespace Go.Proofs.Ytmdagppeeejikaa
open Go.RowKit
set_option linter.unusedVariables false

def r62 : Nat → Int
  | 0 => 6
  | 9 => 2
  | _ => 0
set_option maxRecDepth 100000 in
set_option maxHeartbeats 8000000 in
theorem known4_walk (w : World) : Calls Try.prog 12 #[] w fun e w' => e = .returned (.bool true) ∧ Below w.heap.size w w' := by
  go_enter Try.func12, Try.ntmps12
  go_wp2_with fail
  refine (of_any (Below.refl _ w) 4 8 (by decide) (by decide)).mono ?_
  rintro e w1 ⟨m, bw, bb, rfl, H0⟩
  go_wp2_with fail
  refine (p_new m 3 _).mono ?_
  rintro e w2 ⟨d, ws, rfl, P, b, l1, l2⟩
  have H := PH.made H0 P b l1 l2
  clear P b l1 l2 H0
  rw [show zeros 4 = [0, 0, 0, 0] from rfl, show zeros 8 = [0, 0, 0, 0, 0, 0, 0, 0] from rfl] at H
  go_wp2_with fail
  refine (p_put 7 9 _ H.port H.mem (by decide) (by decide) (by decide) (by decide)).mono ?_
  rintro e w3 ⟨rfl, D⟩
  replace H := H.step D
  clear D
  rw [show wD [0, 0, 0, 0] 6 7 9 0 = [0, 0, 0, 0] from by decide, show bD [0, 0, 0, 0, 0, 0, 0, 0] 6 7 9 = [0, 0, 0, 0, 0, 0, 0, 9] from by decide] at H
  go_wp2_with fail
  refine (p_get 7 _ H.port H.mem (by decide) (by decide)).mono ?_
  rintro e w3 ⟨rfl, D⟩
  replace H := H.step D
  clear D
  rw [show IntKind.u8.wrap (tD [0, 0, 0, 0] [0, 0, 0, 0, 0, 0, 0, 9] 5 7 0) = 9 from by decide]
  rw [(get_D [0, 0, 0, 0] [] _).1, (get_D [] [0, 0, 0, 0, 0, 0, 0, 9] _).2] at H
  go_wp2_with fail
  refine (p_load 4 _ H.port H.mem (by decide) (by decide)).mono ?_
  rintro e w3 ⟨rfl, D⟩
  replace H := H.step D
  clear D
  rw [show tD [0, 0, 0, 0] [0, 0, 0, 0, 0, 0, 0, 9] 1 4 0 = 0 from by decide]
  rw [(load_D [0, 0, 0, 0] [] _).1, (load_D [] [0, 0, 0, 0, 0, 0, 0, 9] _).2] at H
  go_wp2_with fail
  refine (p_cas 4 0 1 _ H.port H.mem (by decide) (by decide) (by decide) (by decide) (by decide) (by decide)).mono ?_
  rintro e w3 ⟨rfl, D⟩
  replace H := H.step D
  clear D
  rw [show (tD [0, 0, 0, 0] [0, 0, 0, 0, 0, 0, 0, 9] 3 4 0 == 1) = false from by decide]
  rw [show wD [0, 0, 0, 0] 3 4 0 1 = [0, 0, 0, 0] from by decide, show bD [0, 0, 0, 0, 0, 0, 0, 9] 3 4 0 = [0, 0, 0, 0, 0, 0, 0, 9] from by decide] at H
  go_wp2_with fail
  refine (p_put 8 1 _ H.port H.mem (by decide) (by decide) (by decide) (by decide)).mono ?_
  rintro e w3 ⟨rfl, D⟩
  replace H := H.step D
  clear D
  rw [show wD [0, 0, 0, 0] 6 8 1 0 = [0, 0, 0, 0] from by decide, show bD [0, 0, 0, 0, 0, 0, 0, 9] 6 8 1 = [0, 0, 0, 0, 0, 0, 0, 9] from by decide] at H
  go_wp2_with fail
  refine (p_told_no _ H.port).mono ?_
  rintro e w4 ⟨rfl, b⟩
  replace H := H.after b
  clear b
  go_wp2_with (refine wpList_new_res rfl (.tmp 5) (.tmp 33) rfl rfl (fun _ => 0) rfl ?_; intro W A BW)
  replace H := H.after BW
  clear A BW
  rw [show (.agg #[.int .i64 6, .int .i64 0, .int .u8 0, .int .u64 0, .int .u64 0, .int .u64 0, .int .u64 0, .int .u64 0, .int .i64 0, .int .i64 2, .int .i64 0] : Value) = .agg (res r62) from rfl]
  refine (p_tell r62 _ H.port).mono ?_
  rintro e w5 ⟨rfl, Q, A, c⟩
  replace H := H.tell Q c
  clear Q c
  go_wp2_with fail
  refine (p_told_yes r62 _ H.port A).mono ?_
  rintro e w6 ⟨rfl, b⟩
  replace H := H.after b
  clear b A
  go_wp2_with (refine wpList_new_res rfl (.tmp 7) (.tmp 41) rfl rfl r62 rfl ?_; intro W2 A BW)
  replace H := H.after BW
  clear BW
  refine (p_steps _ H.port).mono ?_
  rintro e w7 ⟨rfl, hw⟩
  have hw := hw.symm
  subst hw
  go_wp2_with fail
  refine (p_fresh _ H.port).mono ?_
  rintro e w8 ⟨rfl, Q, c⟩
  have A1 := A.ch c (by have n1 := A.ne H.port.top (by decide); have n2 := A.ne H.port.ways (by decide); simp; omega)
  replace H := H.fresh Q c
  clear Q c A
  go_wp2_with fail
  refine (p_told_no _ H.port).mono ?_
  rintro e w9 ⟨rfl, b⟩
  replace H := H.after b
  replace A1 := A1.below b
  clear b
  go_wp2_with (refine wpList_new_res rfl (.tmp 10) (.tmp 50) rfl rfl (fun _ => 0) rfl ?_; intro W3 A3 BW)
  replace H := H.after BW
  replace A1 := A1.below BW
  clear A3 BW
  have HB := H.below
  refine (l_new 2 _).mono ?_
  rintro e y1 ⟨dl, wl, rfl, L⟩
  go_wp2_with fail
  refine (l_store 0 1 _ L (by decide) (by decide)).mono ?_
  rintro e y2 ⟨rfl, L⟩
  go_wp2_with fail
  refine (n_store 0 1 _).mono ?_
  rintro e y3 ⟨rfl, hw⟩
  have hw := hw.symm
  subst hw
  go_wp2_with fail
  refine (n_put 0 1 (by decide) (by decide) _).mono ?_
  rintro e y3 ⟨rfl, hw⟩
  have hw := hw.symm
  subst hw
  have A4 := A1.below L.below
  go_wp2_with (refine wpList_load_row rfl 70 (.tmp 7) rfl _ rfl 70 (res r62) (0, 0) _ A4 Try.underlying70 rfl (info70 _) ?_)
  refine (n_tell r62 _).mono ?_
  rintro e y4 ⟨rfl, b⟩
  replace L := L.after b
  clear b A4
  go_wp2_with fail
  refine (n_fresh _).mono ?_
  rintro e y3 ⟨rfl, hw⟩
  have hw := hw.symm
  subst hw
  go_wp2_with fail
  refine (n_told _).mono ?_
  rintro e y4 ⟨rfl, b⟩
  replace L := L.after b
  clear b
  go_upto_region 23 with (refine wpList_new_res rfl (.tmp 14) (.tmp 67) rfl rfl (fun _ => 0) rfl ?_; intro W4 A5 BW)
  replace L := L.after BW
  clear A5 BW
  have A4 := A1.below L.below
  have H4 := H.after L.below
  have q0 : W4.cell? ⟨w6.heap.size, 0, none⟩ = some (.int .i64 6) := A4.cell 0 rfl
  have q9 : W4.cell? ⟨w6.heap.size, 9, none⟩ = some (.int .i64 2) := A4.cell 9 rfl
  clear A1 A4 H
  go_wp2_with fail
  refine (p_steps _ H4.port).mono ?_
  rintro e z1 ⟨rfl, hw⟩
  have hw := hw.symm
  subst hw
  clear q0 q9
  go_wp2_with fail
  refine (l_load 0 _ L (by decide) (by decide)).mono ?_
  rintro e z2 ⟨rfl, L⟩
  have B4 := H4.below
  have LB := L.below
  go_wp2_with fail
  refine (l_steps _ L).mono ?_
  rintro e z3 ⟨rfl, hw⟩
  have hw := hw.symm
  subst hw
  go_wp2_with fail
  refine (l_self _ L).mono ?_
  rintro e z3 ⟨rfl, hw⟩
  have hw := hw.symm
  subst hw
  go_wp2_with fail
  refine (n_load 0 _).mono ?_
  rintro e z3 ⟨rfl, hw⟩
  have hw := hw.symm
  subst hw
  go_wp2_with fail
  refine (n_cas 0 0 1 _).mono ?_
  rintro e z3 ⟨rfl, hw⟩
  have hw := hw.symm
  subst hw
  go_wp2_with fail
  refine (n_add 0 1 _).mono ?_
  rintro e z3 ⟨rfl, hw⟩
  have hw := hw.symm
  subst hw
  go_wp2_with fail
  refine (n_get 0 _).mono ?_
  rintro e z3 ⟨rfl, hw⟩
  have hw := hw.symm
  subst hw
  go_wp2_with fail
  refine (n_steps  _).mono ?_
  rintro e z3 ⟨rfl, hw⟩
  have hw := hw.symm
  subst hw
  go_wp2_with fail
  refine (n_self  _).mono ?_
  rintro e z3 ⟨rfl, hw⟩
  have hw := hw.symm
  subst hw
  go_wp2_with fail
  refine (awake4_any _).mono ?_
  rintro e z4 ⟨rfl, b⟩
  go_wp2_with fail
  go_ret
  exact ⟨rfl, bnext (bnext HB LB) b⟩
end Go.Proofs.Ytmdagppeeejikaa
