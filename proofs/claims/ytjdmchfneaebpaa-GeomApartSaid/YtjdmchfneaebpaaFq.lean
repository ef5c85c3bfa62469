/- The making of a row of words as an operation. -/
import Derived.Test.YtjdmchfneaebpaaFp
import Derived.Test.YtjdmchfneaebpaaGm
namespace Go.Proofs.Ytjdmchfneaebpaa
open Go.RowKit
set_option linter.unusedVariables false

def at34 (m g : Nat) : Value := .slice (some ⟨g, 0, none⟩) m m
theorem run_bs2 (x y : Int) (w : World) : (Instr.buildSlice 34 2 #[(0, .int .i64 x), (1, .int .i64 y)]).run Try.prog w = .ok (at34 2 w.heap.size) (w.alloc (.cells #[.int .i64 x, .int .i64 y] 3)) := by kernel_rfl
theorem run_bs3 (x y z : Int) (w : World) : (Instr.buildSlice 34 3 #[(0, .int .i64 x), (1, .int .i64 y), (2, .int .i64 z)]).run Try.prog w = .ok (at34 3 w.heap.size) (w.alloc (.cells #[.int .i64 x, .int .i64 y, .int .i64 z] 3)) := by kernel_rfl
theorem run_bs4 (x y z u : Int) (w : World) : (Instr.buildSlice 34 4 #[(0, .int .i64 x), (1, .int .i64 y), (2, .int .i64 z), (3, .int .i64 u)]).run Try.prog w = .ok (at34 4 w.heap.size) (w.alloc (.cells #[.int .i64 x, .int .i64 y, .int .i64 z, .int .i64 u] 3)) := by kernel_rfl
theorem bs2 {o : Oper} {d p q : Nat} (ho : o.op = .buildSlice 34 2 #[(0, .tmp p), (1, .tmp q)]) (hd : o.dst = some d) (x y : Int) (A : Act) {Q : Exit → Act → World → Prop} (hp : A.tmps.getD p undef = .int .i64 x) (hq : A.tmps.getD q undef = .int .i64 y)
    (a : Act) (w : World) (K : Act → World → Prop) (hG : Gs A [p, q] a) (h : K (a.put (some d) (at34 2 w.heap.size)) (w.alloc (.cells #[.int .i64 x, .int .i64 y] 3))) : o.wp Try.prog a w K Q := by
  have e1 : a.eval (.tmp p) = .int .i64 x := (hG p (by simp)).trans hp
  have e2 : a.eval (.tmp q) = .int .i64 y := (hG q (by simp)).trans hq
  unfold Oper.wp execOp
  simp only [ho, List.map_toArray, List.map_cons, List.map_nil, e1, e2, Sem.run_bind, run_bs2, Result.andThen_ok, Sem.run_pure, Oper.upon, hd]
  exact h
theorem bs3 {o : Oper} {d p q r : Nat} (ho : o.op = .buildSlice 34 3 #[(0, .tmp p), (1, .tmp q), (2, .tmp r)]) (hd : o.dst = some d) (x y z : Int) (A : Act) {Q : Exit → Act → World → Prop} (hp : A.tmps.getD p undef = .int .i64 x) (hq : A.tmps.getD q undef = .int .i64 y) (hr : A.tmps.getD r undef = .int .i64 z)
    (a : Act) (w : World) (K : Act → World → Prop) (hG : Gs A [p, q, r] a) (h : K (a.put (some d) (at34 3 w.heap.size)) (w.alloc (.cells #[.int .i64 x, .int .i64 y, .int .i64 z] 3))) : o.wp Try.prog a w K Q := by
  have e1 : a.eval (.tmp p) = .int .i64 x := (hG p (by simp)).trans hp
  have e2 : a.eval (.tmp q) = .int .i64 y := (hG q (by simp)).trans hq
  have e3 : a.eval (.tmp r) = .int .i64 z := (hG r (by simp)).trans hr
  unfold Oper.wp execOp
  simp only [ho, List.map_toArray, List.map_cons, List.map_nil, e1, e2, e3, Sem.run_bind, run_bs3, Result.andThen_ok, Sem.run_pure, Oper.upon, hd]
  exact h
theorem bs4 {o : Oper} {d p q r s : Nat} (ho : o.op = .buildSlice 34 4 #[(0, .tmp p), (1, .tmp q), (2, .tmp r), (3, .tmp s)]) (hd : o.dst = some d) (x y z u : Int) (A : Act) {Q : Exit → Act → World → Prop} (hp : A.tmps.getD p undef = .int .i64 x) (hq : A.tmps.getD q undef = .int .i64 y) (hr : A.tmps.getD r undef = .int .i64 z) (hs : A.tmps.getD s undef = .int .i64 u)
    (a : Act) (w : World) (K : Act → World → Prop) (hG : Gs A [p, q, r, s] a) (h : K (a.put (some d) (at34 4 w.heap.size)) (w.alloc (.cells #[.int .i64 x, .int .i64 y, .int .i64 z, .int .i64 u] 3))) : o.wp Try.prog a w K Q := by
  have e1 : a.eval (.tmp p) = .int .i64 x := (hG p (by simp)).trans hp
  have e2 : a.eval (.tmp q) = .int .i64 y := (hG q (by simp)).trans hq
  have e3 : a.eval (.tmp r) = .int .i64 z := (hG r (by simp)).trans hr
  have e4 : a.eval (.tmp s) = .int .i64 u := (hG s (by simp)).trans hs
  unfold Oper.wp execOp
  simp only [ho, List.map_toArray, List.map_cons, List.map_nil, e1, e2, e3, e4, Sem.run_bind, run_bs4, Result.andThen_ok, Sem.run_pure, Oper.upon, hd]
  exact h

/-- an append's arm: the cells lie in a block g -/
theorem arm_at {w W : World} {n t : Nat} {xs : List Int} {v : Value} (O : Out w n t xs v W) (g : Nat) (ys : List Int) (hA : W.heap[g]? = some (.cells (ys.map (Value.int .i64)).toArray 3 (0, 0))) (hlen : xs.length + ys.length ≤ 20000)
    {ops : Array Oper} {rest : List Oper} {o : Oper} {a : Act} {Q : Exit → Act → World → Prop} (hgd : o.guard = none) (s x : Operand) (ho : o.op = .call { callee := .builtin .append, args := #[s, x], argTypes := #[34, 34] })
    (hs : a.eval s = v) (hx : a.eval x = at34 ys.length g)
    (h : ∀ v' w', Out w n t (xs ++ ys) v' w' → wpList Try.prog ops Q rest (a.put o.dst v') w') : wpList Try.prog ops Q (o :: rest) a W := by
  obtain ⟨j0, ji, jz0, jz1, jz2⟩ := info_parts Try.info3
  have hs1 := O.bel.size
  have hgs : w.heap.size + 1 ≤ W.heap.size := O.geo.lt
  refine wpList_append_own _ hgd s x 34 ho (w.heap.size + 1) 3 j0 (.int .i64 0) 1 8 Try.underlying34 ji jz0 jz1 jz2 rfl (by decide) v xs.length _ hs O.own ⟨g, 0, none⟩ ys.length ys.length (ys.map (Value.int .i64)) hx (by simp) ?_ ?_ (by unfold maxLen; omega) (by omega) hgs ?_
  · intro j u hu
    rw [Addr.add_lit, Nat.zero_add, cell_of_row _ g j _ 3 (0, 0) hA]
    rw [← hu]; simp
  · intro u hu
    obtain ⟨z, _, rfl⟩ := List.mem_map.1 hu
    rfl
  · intro v' w1 h1 h2 _
    refine h v' w1 ⟨?_, ?_, ?_⟩
    · rw [List.length_append, List.map_append]; exact h1
    · have hne : ¬ (some w.heap.size = v.ownBlock) := fun e => by have := O.row _ e.symm; omega
      exact (h2.block w.heap.size O.geo.lt hne).trans O.geo
    · exact O.bel.grown h2 (by omega) (fun k hk => by have := O.row k hk; omega)
end Go.Proofs.Ytjdmchfneaebpaa
