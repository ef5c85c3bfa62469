/- What a port is told, and tells: Tell, Told, Fresh. Condition: the numbers fit their kinds. -/
import Derived.Test.YtmdagppeeejikaaNf
import Derived.Test.YtmdagppeeejikaaMr
import Derived.Deep.MidRow
namespace Go.Proofs.Ytmdagppeeejikaa
open Go.RowKit
set_option linter.unusedVariables false

theorem at_set {w : World} {b : Nat} {cs : Array Value} {t : TypeId} (h : At w b cs t) (q : Addr) (v : Value) (hne : b ≠ q.block) : At (w.setCell q v) b cs t := by
  unfold At
  rw [heap_setCell_other _ _ _ _ hne]
  exact h
/-- a result, by its numbers -/
def res (v : Nat → Int) : Array Value := #[.int .i64 (v 0), .int .i64 (v 1), .int .u8 (v 2), .int .u64 (v 3), .int .u64 (v 4), .int .u64 (v 5), .int .u64 (v 6), .int .u64 (v 7), .int .i64 (v 8), .int .i64 (v 9), .int .i64 (v 10)]
theorem info70 (v : Nat → Int) : (Try.prog.info? 70).map (·.size) = some (res v).size := by kernel_rfl
theorem one70 (v : Nat → Int) : ((res v).all fun x => x.oneCell') = true := by kernel_rfl

set_option maxHeartbeats 1000000 in
theorem p_tell {d ws m : Nat} {sf s : Int} {told : Value} (v : Nat → Int) (w : World) (H : IsPort w d ws m sf s told) :
    Calls Try.prog 39 #[.pointer (some ⟨d, 0, none⟩), .agg (res v)] w fun e w' => e = .returned (.tuple #[]) ∧ IsPort w' d ws m sf s (.pointer (some ⟨w.heap.size, 0, none⟩)) ∧ At w' w.heap.size (res v) 70 ∧ Ch [d] w w' := by
  have hB : Below w.heap.size w (w.alloc (.cells (res v) 70)) := (Below.refl _ w).alloc (Nat.le_refl _) _
  have X : At (w.alloc (.cells (res v) 70)) w.heap.size (res v) 70 := At.last w _ 70
  have H1 := H.below hB
  have c2 := H1.top.cell 2 rfl
  have f2 := frozen_of_row _ _ 2 _ _ H1.top
  go_enter Try.func39, Try.ntmps39
  go_wp2_with fail
  go_end0
  have n1 := H1.ne
  refine ⟨rfl, ⟨heap_setCell_same _ d 2 _ 89 _ H1.top, at_set H1.ways ⟨d, 2, none⟩ _ n1.symm⟩, at_set X ⟨d, 2, none⟩ _ ?_, (Ch.of_below hB).trans ((Ch.refl _ _).setCell (by simp) _)⟩
  have := H.top.lt
  show w.heap.size ≠ d
  omega

/-- what Told leaves -/
def ToldIs (v : Nat → Int) (ok : Bool) (w : World) (e : Ending) (w' : World) : Prop := e = .returned (.tuple #[.agg (res v), .bool ok]) ∧ Below w.heap.size w w'
set_option maxHeartbeats 1000000 in
theorem p_told_no {d ws m : Nat} {sf s : Int} (w : World) (H : IsPort w d ws m sf s (.pointer none)) :
    Calls Try.prog 42 #[.pointer (some ⟨d, 0, none⟩)] w (ToldIs (fun _ => 0) false w) := by
  go_enter Try.func42, Try.ntmps42
  go_upto_region 1 with fail
  generalize hV : World.alloc w _ = V
  have hB : Below w.heap.size w V := hV ▸ (Below.refl _ w).alloc (Nat.le_refl _) _
  have X : At V w.heap.size (res fun _ => 0) 70 := hV ▸ At.last w _ 70
  have H1 := H.below hB
  have c2 := H1.top.cell 2 rfl
  clear hV
  go_wp2_with (refine wpList_store_row rfl 70 (.tmp 2) (.tmp 13) rfl w.heap.size (res fun _ => 0) rfl rfl 70 _ X (info70 _) rfl (one70 _) ?_)
  refine bodyPost_ret (results_row_tmp (p := 2) (u := 3) (ty := 70) rfl _ _ w.heap.size 70 (res fun _ => 0) (0, 0) _ _ rfl rfl (setRow_heap _ _ _ _ _ _ X) Try.underlying70 rfl (info70 _)) rfl ?_
  exact ⟨rfl, below_setRow hB (Nat.le_refl _) _⟩
set_option maxHeartbeats 1000000 in
theorem p_told_yes {d ws m x : Nat} {sf s : Int} (v : Nat → Int) (w : World) (H : IsPort w d ws m sf s (.pointer (some ⟨x, 0, none⟩))) (A : At w x (res v) 70) :
    Calls Try.prog 42 #[.pointer (some ⟨d, 0, none⟩)] w (ToldIs v true w) := by
  go_enter Try.func42, Try.ntmps42
  go_upto_region 1 with fail
  generalize hV : World.alloc w _ = V
  have hB : Below w.heap.size w V := hV ▸ (Below.refl _ w).alloc (Nat.le_refl _) _
  have X : At V w.heap.size (res fun _ => 0) 70 := hV ▸ At.last w _ 70
  have H1 := H.below hB
  have A1 := A.below hB
  have c2 := H1.top.cell 2 rfl
  clear hV
  go_wp2_with (first
    | (refine wpList_load_row rfl 70 (.tmp 18) rfl x rfl 70 (res v) (0, 0) _ A1 Try.underlying70 rfl (info70 _) ?_)
    | (refine wpList_store_row rfl 70 (.tmp 2) (.tmp 19) rfl w.heap.size (res v) rfl rfl 70 _ X (info70 _) rfl (one70 _) ?_))
  refine bodyPost_ret (results_row_tmp (p := 2) (u := 3) (ty := 70) rfl _ _ w.heap.size 70 (res v) (0, 0) _ _ rfl rfl (setRow_heap _ _ _ _ _ _ X) Try.underlying70 rfl (info70 _)) rfl ?_
  exact ⟨rfl, below_setRow hB (Nat.le_refl _) _⟩
set_option maxHeartbeats 1000000 in
theorem p_fresh {d ws m : Nat} {sf s : Int} {told : Value} (w : World) (H : IsPort w d ws m sf s told) :
    Calls Try.prog 43 #[.pointer (some ⟨d, 0, none⟩)] w fun e w' => e = .returned (.tuple #[]) ∧ IsPort w' d ws m sf 0 (.pointer none) ∧ Ch [ws, d] w w' := by
  have C1 := Lib.hid (way_any d ws (.int .i64 sf) told w H.top)
  have n1 := H.ne
  have c0 := H.top.cell 0 rfl
  have c2 := H.top.cell 2 rfl
  have c1 := H.ways.cell 1 rfl
  have f2 := frozen_of_row _ _ 2 _ _ H.top
  have f1 := frozen_of_row _ _ 1 _ _ H.ways
  go_enter Try.func43, Try.ntmps43
  go_wp2_with fail
  refine C1.out.mono ?_
  rintro e w1 ⟨rfl, hw1⟩
  have hw1 := hw1.symm
  subst hw1
  go_wp2_with fail
  go_end0
  have h1 : At (w.setCell ⟨ws, 1, none⟩ (.int .i64 0)) d #[.pointer (some ⟨ws, 0, none⟩), .int .i64 sf, told] 89 := at_set H.top ⟨ws, 1, none⟩ _ n1
  have h2 : At (w.setCell ⟨ws, 1, none⟩ (.int .i64 0)) ws #[.pointer (some ⟨m, 0, none⟩), .int .i64 0] 86 := heap_setCell_same w ws 1 _ 86 (.int .i64 0) H.ways
  exact ⟨rfl, ⟨heap_setCell_same _ d 2 _ 89 _ h1, at_set h2 ⟨d, 2, none⟩ _ n1.symm⟩, ((Ch.refl _ w).setCell (by simp) _).setCell (by simp) _⟩

theorem neq70 (v : Nat → Int) (w : World) : (binOp .neq 70 (.agg (res v)) (.agg (res v))).run Try.prog w = .ok (.bool false) w := by
  unfold res
  generalize v 0 = x0
  generalize v 1 = x1
  generalize v 2 = x2
  generalize v 3 = x3
  generalize v 4 = x4
  generalize v 5 = x5
  generalize v 6 = x6
  generalize v 7 = x7
  generalize v 8 = x8
  generalize v 9 = x9
  generalize v 10 = x10
  go_simp
theorem gd70 (v : Nat → Int) (x y : Operand) (w : World) : (eqGuard .neq 70 x y (.agg (res v)) (.agg (res v))).run Try.prog w = .ok () w := by kernel_rfl
/-- a load of a whole result -/
theorem load_at {w : World} {b o : Nat} {v : Nat → Int} (h : w.rangeAt b o (res v).toList) (hb : b < w.heap.size) : ∀ s : Bel w, (Instr.loadAt 70 (.pointer (some ⟨b, o, none⟩))).run Try.prog s.1 = .ok (.agg (res v)) s.1 := by
  intro s
  have h' : s.1.rangeAt b o (res v).toList := fun j x hj => (s.2.cell (p := ⟨b, o + j, none⟩) hb).trans (h j x hj)
  have r := run_loadAt_mid (P := Try.prog) s.1 b o 70 (res v).toList _ h' Try.underlying70 rfl (info70 v)
  rwa [Array.toArray_toList] at r
theorem load_row {w : World} {b : Nat} {v : Nat → Int} (h : At w b (res v) 70) : ∀ s : Bel w, (Instr.loadAt 70 (.pointer (some ⟨b, 0, none⟩))).run Try.prog s.1 = .ok (.agg (res v)) s.1 :=
  load_at (fun j x hj => by rw [Nat.zero_add]; rw [Array.getElem?_toList] at hj; exact h.cell j hj) h.lt
/-- a load of a whole value, by its law -/
theorem quiet_load {P : Program} {w : World} {a : Act} {o : Oper} {K : Act → Prop} {ty : TypeId} {x : Operand} {p v : Value} (ho : o.op = .load ty x) (hx : a.eval x = p)
    (hL : ∀ s : Bel w, (Instr.loadAt ty p).run P s.1 = .ok v s.1) (hk : K (a.put o.dst v)) : o.quiet P a (fun w' => ∃ s : Bel w, w' = s.1) K := by
  refine ⟨v, ?_, hk⟩
  rintro w' ⟨s, rfl⟩
  unfold Oper.quietAt execOp
  simp only [ho, hx]
  simp only [Sem.run_bind, hL, Result.andThen_ok, Sem.run_pure]
  exact ⟨rfl, rfl⟩
end Go.Proofs.Ytmdagppeeejikaa
