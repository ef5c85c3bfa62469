/- The law MemStays returns true for every input, and leaves its arguments as they were. No condition: every input that can be read as data. -/
import Derived.Test.YtmdagppeeejikaaRows
import Derived.ProofKit
import Derived.OpenShut
import Derived.ChangeOld
import Derived.Below
import Derived.Lib.SmallJoins
import Derived.Test.YtmdagppeeejikaaQd
import Derived.Test.YtmdagppeeejikaaLo
namespace Go.Proofs.Ytmdagppeeejikaa.lawMemStays
open Go.ChangeShapes Go.WideShapes Go.ChangeAt Go.RowKit Go.Joins

theorem own : ownKnob Try.prog.godebug = none := by kernel_rfl
theorem laidOut : laidOutB Try.prog = true := by kernel_rfl

theorem MemStays_walk (w : World) (x0 : Int) (w_x0 : (Lit.int .u8 x0).wf = true) (x1 : Int) (w_x1 : (Lit.int .u8 x1).wf = true) (x2 : Option Addr) (l2 c2 : Nat) (z2 : Nat → Acc) (r2 : ARow w x2 l2 z2) (x3_0 : Int) (w_x3_0 : (Lit.int .u8 x3_0).wf = true) (x3_1 : Int) (w_x3_1 : (Lit.int .i64 x3_1).wf = true) (x3_2 : Int) (w_x3_2 : (Lit.int .u64 x3_2).wf = true) (x3_3 : Int) (w_x3_3 : (Lit.int .u64 x3_3).wf = true) (x4 : Int) (w_x4 : (Lit.int .i64 x4).wf = true) :
    Calls Try.prog 10 #[.int .u8 x0, .int .u8 x1, .slice x2 l2 c2, .agg #[.int .u8 x3_0, .int .i64 x3_1, .int .u64 x3_2, .int .u64 x3_3], .int .i64 x4] w fun e w' => e = .returned (.bool true) ∧ Below w.heap.size w w' :=
  stays_walk x0 x1 x2 l2 c2 z2 x3_0 x3_1 x3_2 x3_3 x4 w (bounds_u8 w_x0).1 (bounds_u8 w_x0).2 (bounds_u8 w_x1).1 (bounds_u8 w_x1).2 (bounds_u8 w_x3_0).1 (bounds_u8 w_x3_0).2 (bounds_i64 w_x3_1).1 (bounds_i64 w_x3_1).2 (bounds_u64 w_x3_2).1 (bounds_u64 w_x3_2).2 (bounds_u64 w_x3_3).1 (bounds_u64 w_x3_3).2 (bounds_i64 w_x4).1 (bounds_i64 w_x4).2 r2

set_option maxRecDepth 100000 in
theorem lifted (os : Os) (started : os.Started) (H : Type) (enc : TypeId × Value → H) :
    ReturnsInHanded {} Try.checked os 10 .any (Rows.memStaysSpec.pre6 enc Try.prog Try.f10 Rows.memStaysRow.domain false) (Rows.memStaysSpec.post enc Try.prog Try.f10 false true false false) := by
  refine returnsInHanded_of_change (C := Try.checked) own started (by kernel_rfl) Try.func10
    (ChangeSpec.witness6 (enc := enc) (C := Try.checked) false ⟨#[], #[.int .u8 0, .int .u8 0, .slice none 0 0, .agg #[.int .u8 0, .int .i64 0, .int .u64 0, .int .u64 0], .int .i64 0], []⟩ 8 (by kernel_rfl) (by kernel_rfl) (by kernel_rfl) (by kernel_rfl)) ?_
  intro W base args ds gs before hval0 hW hcnd _
  have hval : ∀ (j : Nat) t v, Try.f10.params[j]? = some t → args[j]? = some v → Value.okWide Try.prog W .any base t v := hval0
  have hW' := hW
  obtain ⟨p, q, hA0, hV, rfl, hfz, hnd⟩ := hW
  have hA : DataW.TrodAll enc Try.prog W 0 (fun _ => true) true Try.f10.params.toList args.toList ds p := hA0
  rw [Try.params10] at hA hval
  obtain ⟨v0, vs0, d0, ds0, p0, q0, hargs, rfl, rfl, h0, r0⟩ := trodAll_cons hA
  obtain ⟨v1, vs1, d1, ds1, p1, q1, rfl, rfl, rfl, h1, r1⟩ := trodAll_cons r0
  obtain ⟨v2, vs2, d2, ds2, p2, q2, rfl, rfl, rfl, h2, r2⟩ := trodAll_cons r1
  obtain ⟨v3, vs3, d3, ds3, p3, q3, rfl, rfl, rfl, h3, r3⟩ := trodAll_cons r2
  obtain ⟨v4, vs4, d4, ds4, p4, q4, rfl, rfl, rfl, h4, r4⟩ := trodAll_cons r3
  obtain ⟨rfl, rfl, rfl⟩ := trodAll_nil r4
  obtain rfl : args = #[v0, v1, v2, v3, v4] := by cases args; simp_all
  obtain ⟨rfl, rfl⟩ := trodVars_none hV
  obtain ⟨a0, rfl, rfl, rfl, w0⟩ := open_int Try.underlying5 (hval 0 5 v0 rfl rfl) h0
  obtain ⟨a1, rfl, rfl, rfl, w1⟩ := open_int Try.underlying5 (hval 1 5 v1 rfl rfl) h1
  obtain ⟨a2, len2, cap2, rfl⟩ := okWide_slice Try.underlying38 (hval 2 38 v2 rfl rfl)
  have k2 := h2
  have lt2 : ∀ x ∈ p2, x.block < W.heap.size := by obtain ⟨m, hm⟩ := k2; exact DataW.trod_lt m _ _ _ hm
  obtain ⟨z2, w2⟩ : ∃ X, ARow W a2 len2 X := by
    obtain ⟨fuel, hf⟩ := h2
    obtain ⟨ao, l, c, X, hcs, hr⟩ := accs_of hf
    simp [Value.cells] at hcs
    obtain ⟨rfl, rfl, rfl⟩ := hcs
    exact ⟨X, hr⟩
  have k3 := h3
  have lt3 : ∀ x ∈ p3, x.block < W.heap.size := by obtain ⟨m, hm⟩ := k3; exact DataW.trod_lt m _ _ _ hm
  obtain ⟨c3_0, c3_1, c3_2, c3_3, y3_0, y3_1, y3_2, y3_3, m3, rfl, _, _, t3_0, t3_1, t3_2, t3_3⟩ := open_agg4 Try.underlying30 (by kernel_rfl) (by kernel_rfl) (hval 3 30 v3 rfl rfl) h3
  obtain ⟨a3_0, e3_0, _, w3_0⟩ := DataW.trod_int Try.underlying5 t3_0
  simp only [List.cons.injEq, and_true] at e3_0
  subst e3_0
  obtain ⟨a3_1, e3_1, _, w3_1⟩ := DataW.trod_int Try.underlying3 t3_1
  simp only [List.cons.injEq, and_true] at e3_1
  subst e3_1
  obtain ⟨a3_2, e3_2, _, w3_2⟩ := DataW.trod_int Try.underlying22 t3_2
  simp only [List.cons.injEq, and_true] at e3_2
  subst e3_2
  obtain ⟨a3_3, e3_3, _, w3_3⟩ := DataW.trod_int Try.underlying22 t3_3
  simp only [List.cons.injEq, and_true] at e3_3
  subst e3_3
  obtain ⟨a4, rfl, rfl, rfl, w4⟩ := open_int Try.underlying3 (hval 4 3 v4 rfl rfl) h4
  clear hA0 hval0
  refine (MemStays_walk W a0 w0 a1 w1 a2 len2 cap2 z2 w2 a3_0 w3_0 a3_1 w3_1 a3_2 w3_2 a3_3 w3_3 a4 w4).mono fun e W' ⟨he, bel⟩ => ?_
  subst he
  exact ⟨_, rfl, _, _, _, [], _, [], hW', trodAll_mk1 (shut_bool Try.underlying4 _), (trodAll_cons_mk (shut_int Try.underlying5 w0) (trodAll_cons_mk (shut_int Try.underlying5 w1) (trodAll_cons_mk (Below.trod laidOut (by kernel_rfl) (of_decide_eq_true (by kernel_rfl)) k2 bel lt2) (trodAll_cons_mk (Below.trod laidOut (by kernel_rfl) (of_decide_eq_true (by kernel_rfl)) k3 bel lt3) (trodAll_cons_mk (shut_int Try.underlying3 w4) trodAll_mk0))))), rfl, bel.frame _, fun h => by cases h⟩

theorem over : Rows.memStaysRow.holds Try.pinned (OpenSpec.ofChange Rows.memStaysSpec) :=
  OpenClaim.holds_of_wide 10 Try.f10 rfl rfl rfl rfl rfl rfl rfl ⟨rfl, rfl, rfl, rfl, rfl⟩ rfl rfl rfl rfl rfl (by kernel_rfl) Try.func10 (by kernel_rfl)
    (of_decide_eq_true (by kernel_rfl)) (by unfold Func.isWrapper; rw [if_neg (of_decide_eq_false (by kernel_rfl))]; exact ⟨rfl, rfl⟩)
    (fun os started H enc _ => lifted os started H enc)

theorem proved : Rows.MemStaysSaid := over
#print axioms proved
end Go.Proofs.Ytmdagppeeejikaa.lawMemStays
