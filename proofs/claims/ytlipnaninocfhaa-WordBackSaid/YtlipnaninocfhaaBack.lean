/- The law WordBack returns true for every input, and leaves its arguments as they were. No condition: every input that can be read as data. -/
import Derived.Test.YtlipnaninocfhaaRows
import Derived.ProofKit
import Derived.OpenShut
import Derived.ChangeOld
import Derived.Below
import Derived.Lib.SmallJoins
import Derived.Test.YtlipnaninocfhaaWk
namespace Go.Proofs.Ytlipnaninocfhaa.lawWordBack
open Go.ChangeShapes Go.WideShapes Go.ChangeAt Go.RowKit Go.Joins

theorem own : ownKnob Try.prog.godebug = none := by kernel_rfl
theorem laidOut : laidOutB Try.prog = true := by kernel_rfl

theorem WordBack_walk (w : World) (x0_0 : Int) (w_x0_0 : (Lit.int .i64 x0_0).wf = true) (x0_1 : Bool) (x0_2 : Int) (w_x0_2 : (Lit.int .u32 x0_2).wf = true) (x1_0 : Int) (w_x1_0 : (Lit.int .i64 x1_0).wf = true) (x1_1 : Int) (w_x1_1 : (Lit.int .i64 x1_1).wf = true) (x1_2 : Int) (w_x1_2 : (Lit.int .i64 x1_2).wf = true) (x1_3 : Int) (w_x1_3 : (Lit.int .u32 x1_3).wf = true) (x2_0 : Int) (w_x2_0 : (Lit.int .i64 x2_0).wf = true) (x2_1 : Int) (w_x2_1 : (Lit.int .i64 x2_1).wf = true) (x2_2 : Int) (w_x2_2 : (Lit.int .i64 x2_2).wf = true) (x2_3 : Int) (w_x2_3 : (Lit.int .i64 x2_3).wf = true) (x3_0 : Int) (w_x3_0 : (Lit.int .u8 x3_0).wf = true) (x3_1 : Bool) (x3_2 : Int) (w_x3_2 : (Lit.int .i64 x3_2).wf = true) (x3_3 : Int) (w_x3_3 : (Lit.int .u32 x3_3).wf = true) :
    Calls Try.prog 5 #[.agg #[.int .i64 x0_0, .bool x0_1, .int .u32 x0_2], .agg #[.int .i64 x1_0, .int .i64 x1_1, .int .i64 x1_2, .int .u32 x1_3], .agg #[.int .i64 x2_0, .int .i64 x2_1, .int .i64 x2_2, .int .i64 x2_3], .agg #[.int .u8 x3_0, .bool x3_1, .int .i64 x3_2, .int .u32 x3_3]] w fun e w' => e = .returned (.bool true) ∧ Below w.heap.size w w' :=
  back_walk x0_0 x0_1 x0_2 x1_0 x1_1 x1_2 x1_3 x2_0 x2_1 x2_2 x2_3 x3_0 x3_1 x3_2 x3_3 w (bounds_i64 w_x0_0).1 (bounds_i64 w_x0_0).2 (bounds_u32 w_x0_2).1 (bounds_u32 w_x0_2).2 (bounds_i64 w_x1_0).1 (bounds_i64 w_x1_0).2 (bounds_i64 w_x1_1).1 (bounds_i64 w_x1_1).2 (bounds_i64 w_x1_2).1 (bounds_i64 w_x1_2).2 (bounds_u32 w_x1_3).1 (bounds_u32 w_x1_3).2 (bounds_i64 w_x2_0).1 (bounds_i64 w_x2_0).2 (bounds_i64 w_x2_1).1 (bounds_i64 w_x2_1).2 (bounds_i64 w_x2_2).1 (bounds_i64 w_x2_2).2 (bounds_i64 w_x2_3).1 (bounds_i64 w_x2_3).2 (bounds_u8 w_x3_0).1 (bounds_u8 w_x3_0).2 (bounds_i64 w_x3_2).1 (bounds_i64 w_x3_2).2 (bounds_u32 w_x3_3).1 (bounds_u32 w_x3_3).2

set_option maxRecDepth 100000 in
theorem lifted (os : Os) (started : os.Started) (H : Type) (enc : TypeId × Value → H) :
    ReturnsInHanded {} Try.checked os 5 .any (Rows.wordBackSpec.pre6 enc Try.prog Try.f5 Rows.wordBackRow.domain false) (Rows.wordBackSpec.post enc Try.prog Try.f5 false true false false) := by
  refine returnsInHanded_of_change (C := Try.checked) own started (by kernel_rfl) Try.func5
    (ChangeSpec.witness6 (enc := enc) (C := Try.checked) false ⟨#[], #[.agg #[.int .i64 0, .bool false, .int .u32 0], .agg #[.int .i64 0, .int .i64 0, .int .i64 0, .int .u32 0], .agg #[.int .i64 0, .int .i64 0, .int .i64 0, .int .i64 0], .agg #[.int .u8 0, .bool false, .int .i64 0, .int .u32 0]], []⟩ 8 (by kernel_rfl) (by kernel_rfl) (by kernel_rfl) (by kernel_rfl)) ?_
  intro W base args ds gs before hval0 hW hcnd _
  have hval : ∀ (j : Nat) t v, Try.f5.params[j]? = some t → args[j]? = some v → Value.okWide Try.prog W .any base t v := hval0
  have hW' := hW
  obtain ⟨p, q, hA0, hV, rfl, hfz, hnd⟩ := hW
  have hA : DataW.TrodAll enc Try.prog W 0 (fun _ => true) true Try.f5.params.toList args.toList ds p := hA0
  rw [Try.params5] at hA hval
  obtain ⟨v0, vs0, d0, ds0, p0, q0, hargs, rfl, rfl, h0, r0⟩ := trodAll_cons hA
  obtain ⟨v1, vs1, d1, ds1, p1, q1, rfl, rfl, rfl, h1, r1⟩ := trodAll_cons r0
  obtain ⟨v2, vs2, d2, ds2, p2, q2, rfl, rfl, rfl, h2, r2⟩ := trodAll_cons r1
  obtain ⟨v3, vs3, d3, ds3, p3, q3, rfl, rfl, rfl, h3, r3⟩ := trodAll_cons r2
  obtain ⟨rfl, rfl, rfl⟩ := trodAll_nil r3
  obtain rfl : args = #[v0, v1, v2, v3] := by cases args; simp_all
  obtain ⟨rfl, rfl⟩ := trodVars_none hV
  have k0 := h0
  have lt0 : ∀ x ∈ p0, x.block < W.heap.size := by obtain ⟨m, hm⟩ := k0; exact DataW.trod_lt m _ _ _ hm
  obtain ⟨c0_0, c0_1, c0_2, y0_0, y0_1, y0_2, m0, rfl, _, _, t0_0, t0_1, t0_2⟩ := open_agg3 Try.underlying24 (by kernel_rfl) (by kernel_rfl) (hval 0 24 v0 rfl rfl) h0
  obtain ⟨a0_0, e0_0, _, w0_0⟩ := DataW.trod_int Try.underlying3 t0_0
  simp only [List.cons.injEq, and_true] at e0_0
  subst e0_0
  obtain ⟨a0_1, e0_1, _⟩ := DataW.trod_bool Try.underlying4 t0_1
  simp only [List.cons.injEq, and_true] at e0_1
  subst e0_1
  obtain ⟨a0_2, e0_2, _, w0_2⟩ := DataW.trod_int Try.underlying22 t0_2
  simp only [List.cons.injEq, and_true] at e0_2
  subst e0_2
  have k1 := h1
  have lt1 : ∀ x ∈ p1, x.block < W.heap.size := by obtain ⟨m, hm⟩ := k1; exact DataW.trod_lt m _ _ _ hm
  obtain ⟨c1_0, c1_1, c1_2, c1_3, y1_0, y1_1, y1_2, y1_3, m1, rfl, _, _, t1_0, t1_1, t1_2, t1_3⟩ := open_agg4 Try.underlying26 (by kernel_rfl) (by kernel_rfl) (hval 1 26 v1 rfl rfl) h1
  obtain ⟨a1_0, e1_0, _, w1_0⟩ := DataW.trod_int Try.underlying3 t1_0
  simp only [List.cons.injEq, and_true] at e1_0
  subst e1_0
  obtain ⟨a1_1, e1_1, _, w1_1⟩ := DataW.trod_int Try.underlying3 t1_1
  simp only [List.cons.injEq, and_true] at e1_1
  subst e1_1
  obtain ⟨a1_2, e1_2, _, w1_2⟩ := DataW.trod_int Try.underlying3 t1_2
  simp only [List.cons.injEq, and_true] at e1_2
  subst e1_2
  obtain ⟨a1_3, e1_3, _, w1_3⟩ := DataW.trod_int Try.underlying22 t1_3
  simp only [List.cons.injEq, and_true] at e1_3
  subst e1_3
  have k2 := h2
  have lt2 : ∀ x ∈ p2, x.block < W.heap.size := by obtain ⟨m, hm⟩ := k2; exact DataW.trod_lt m _ _ _ hm
  obtain ⟨c2_0, c2_1, c2_2, c2_3, y2_0, y2_1, y2_2, y2_3, m2, rfl, _, _, t2_0, t2_1, t2_2, t2_3⟩ := open_agg4 Try.underlying28 (by kernel_rfl) (by kernel_rfl) (hval 2 28 v2 rfl rfl) h2
  obtain ⟨a2_0, e2_0, _, w2_0⟩ := DataW.trod_int Try.underlying3 t2_0
  simp only [List.cons.injEq, and_true] at e2_0
  subst e2_0
  obtain ⟨a2_1, e2_1, _, w2_1⟩ := DataW.trod_int Try.underlying3 t2_1
  simp only [List.cons.injEq, and_true] at e2_1
  subst e2_1
  obtain ⟨a2_2, e2_2, _, w2_2⟩ := DataW.trod_int Try.underlying3 t2_2
  simp only [List.cons.injEq, and_true] at e2_2
  subst e2_2
  obtain ⟨a2_3, e2_3, _, w2_3⟩ := DataW.trod_int Try.underlying3 t2_3
  simp only [List.cons.injEq, and_true] at e2_3
  subst e2_3
  have k3 := h3
  have lt3 : ∀ x ∈ p3, x.block < W.heap.size := by obtain ⟨m, hm⟩ := k3; exact DataW.trod_lt m _ _ _ hm
  obtain ⟨c3_0, c3_1, c3_2, c3_3, y3_0, y3_1, y3_2, y3_3, m3, rfl, _, _, t3_0, t3_1, t3_2, t3_3⟩ := open_agg4 Try.underlying30 (by kernel_rfl) (by kernel_rfl) (hval 3 30 v3 rfl rfl) h3
  obtain ⟨a3_0, e3_0, _, w3_0⟩ := DataW.trod_int Try.underlying5 t3_0
  simp only [List.cons.injEq, and_true] at e3_0
  subst e3_0
  obtain ⟨a3_1, e3_1, _⟩ := DataW.trod_bool Try.underlying4 t3_1
  simp only [List.cons.injEq, and_true] at e3_1
  subst e3_1
  obtain ⟨a3_2, e3_2, _, w3_2⟩ := DataW.trod_int Try.underlying3 t3_2
  simp only [List.cons.injEq, and_true] at e3_2
  subst e3_2
  obtain ⟨a3_3, e3_3, _, w3_3⟩ := DataW.trod_int Try.underlying22 t3_3
  simp only [List.cons.injEq, and_true] at e3_3
  subst e3_3
  clear hA0 hval0
  refine (WordBack_walk W a0_0 w0_0 a0_1 a0_2 w0_2 a1_0 w1_0 a1_1 w1_1 a1_2 w1_2 a1_3 w1_3 a2_0 w2_0 a2_1 w2_1 a2_2 w2_2 a2_3 w2_3 a3_0 w3_0 a3_1 a3_2 w3_2 a3_3 w3_3).mono fun e W' ⟨he, bel⟩ => ?_
  subst he
  exact ⟨_, rfl, _, _, _, [], _, [], hW', trodAll_mk1 (shut_bool Try.underlying4 _), (trodAll_cons_mk (Below.trod laidOut (by kernel_rfl) (of_decide_eq_true (by kernel_rfl)) k0 bel lt0) (trodAll_cons_mk (Below.trod laidOut (by kernel_rfl) (of_decide_eq_true (by kernel_rfl)) k1 bel lt1) (trodAll_cons_mk (Below.trod laidOut (by kernel_rfl) (of_decide_eq_true (by kernel_rfl)) k2 bel lt2) (trodAll_cons_mk (Below.trod laidOut (by kernel_rfl) (of_decide_eq_true (by kernel_rfl)) k3 bel lt3) trodAll_mk0)))), rfl, bel.frame _, fun h => by cases h⟩

theorem over : Rows.wordBackRow.holds Try.pinned (OpenSpec.ofChange Rows.wordBackSpec) :=
  OpenClaim.holds_of_wide 5 Try.f5 rfl rfl rfl rfl rfl rfl rfl ⟨rfl, rfl, rfl, rfl, rfl⟩ rfl rfl rfl rfl rfl (by kernel_rfl) Try.func5 (by kernel_rfl)
    (of_decide_eq_true (by kernel_rfl)) (by unfold Func.isWrapper; rw [if_neg (of_decide_eq_false (by kernel_rfl))]; exact ⟨rfl, rfl⟩)
    (fun os started H enc _ => lifted os started H enc)

theorem proved : Rows.WordBackSaid := over
#print axioms proved
end Go.Proofs.Ytlipnaninocfhaa.lawWordBack
