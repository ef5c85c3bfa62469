/- A slice of results that came in, opened. No condition. -/
import Derived.Test.YtmdagppeeejikaaNh
import Derived.Deep.Slices
import Derived.Deep.Fields
import Derived.ChangeSame
import Derived.OpenShut
namespace Go.Proofs.Ytmdagppeeejikaa
open Go.RowKit Go.ChangeShapes Go.WideShapes Go.Deep
set_option linter.unusedVariables false

/-- results that came in, an element at a time -/
structure RRow (w : World) (ao : Option Addr) (n : Nat) (R : Nat → Nat → Int) : Prop where
  len : n ≤ 9223372036854775807
  row : ∀ i, i < n → ∃ b off, ao = some ⟨b, off, none⟩ ∧ b < w.heap.size ∧ w.rangeAt b (off + i * 11) (res (R i)).toList
theorem range_below {w w' : World} {b o : Nat} {l : List Value} (h : w.rangeAt b o l) (hb : Below w.heap.size w w') (hlt : b < w.heap.size) : w'.rangeAt b o l :=
  fun j x hj => (hb.cell (p := ⟨b, o + j, none⟩) hlt).trans (h j x hj)
theorem RRow.below {w w' : World} {ao : Option Addr} {n : Nat} {R : Nat → Nat → Int} (h : RRow w ao n R) (hb : Below w.heap.size w w') : RRow w' ao n R :=
  ⟨h.len, fun i hi => by obtain ⟨b, off, ha, hlt, hc⟩ := h.row i hi; exact ⟨b, off, ha, Nat.lt_of_lt_of_le hlt hb.size, range_below hc hb hlt⟩⟩

section
variable {H : Type} {enc : TypeId × Value → H} {w : World} {base : Nat} {spare : Nat → Bool} {held : Bool}
theorem len5 {α : Type} {l : List α} (h : l.length = 5) : ∃ a b c d e, l = [a, b, c, d, e] := by
  match l, h with
  | [a, b, c, d, e], _ => exact ⟨a, b, c, d, e, rfl⟩
theorem len7 {α : Type} {l : List α} (h : l.length = 7) : ∃ a b c d e f g, l = [a, b, c, d, e, f, g] := by
  match l, h with
  | [a, b, c, d, e, f, g], _ => exact ⟨a, b, c, d, e, f, g, rfl⟩
theorem len11 {α : Type} {l : List α} (h : l.length = 11) : ∃ a b c d e f g i j k m, l = [a, b, c, d, e, f, g, i, j, k, m] := by
  match l, h with
  | [a, b, c, d, e, f, g, i, j, k, m], _ => exact ⟨a, b, c, d, e, f, g, i, j, k, m, rfl⟩
theorem res_of {n : Nat} {cs : List Value} {x : DataW H × List MemPlace} (h : DataW.trod enc Try.prog w base spare held n 70 cs = some x) : ∃ v : Nat → Int, cs = (res v).toList := by
  have c70 : Try.prog.cellsOf 70 = 11 := by kernel_rfl
  have c68 : Try.prog.cellsOf 68 = 5 := by kernel_rfl
  have c3 : Try.prog.cellsOf 3 = 1 := by kernel_rfl
  have c5 : Try.prog.cellsOf 5 = 1 := by kernel_rfl
  have c22 : Try.prog.cellsOf 22 = 1 := by kernel_rfl
  have c24 : Try.prog.cellsOf 24 = 1 := by kernel_rfl
  obtain ⟨ys, m, _, _, hl, hyl, hf⟩ := DataW.trod_struct Try.underlying70 h
  obtain ⟨x0, x1, x2, x3, x4, x5, x6, x7, x8, x9, x10, rfl⟩ := len11 (hl.trans c70)
  obtain ⟨y0, y1, y2, y3, y4, y5, y6, rfl⟩ := len7 hyl
  have t0 : DataW.trod enc Try.prog w base spare held m 3 (List.take (Try.prog.cellsOf 3) [x0, x1, x2, x3, x4, x5, x6, x7, x8, x9, x10]) = some y0 := hf 0 _ rfl
  have t1 : DataW.trod enc Try.prog w base spare held m 3 (List.take (Try.prog.cellsOf 3) [x1, x2, x3, x4, x5, x6, x7, x8, x9, x10]) = some y1 := hf 1 _ rfl
  have t2 : DataW.trod enc Try.prog w base spare held m 5 (List.take (Try.prog.cellsOf 5) [x2, x3, x4, x5, x6, x7, x8, x9, x10]) = some y2 := hf 2 _ rfl
  have t3 : DataW.trod enc Try.prog w base spare held m 68 (List.take (Try.prog.cellsOf 68) [x3, x4, x5, x6, x7, x8, x9, x10]) = some y3 := hf 3 _ rfl
  have t4 : DataW.trod enc Try.prog w base spare held m 24 (List.take (Try.prog.cellsOf 24) [x8, x9, x10]) = some y4 := hf 4 _ rfl
  have t5 : DataW.trod enc Try.prog w base spare held m 3 (List.take (Try.prog.cellsOf 3) [x9, x10]) = some y5 := hf 5 _ rfl
  have t6 : DataW.trod enc Try.prog w base spare held m 3 (List.take (Try.prog.cellsOf 3) [x10]) = some y6 := hf 6 _ rfl

  rw [c3] at t0 t1 t5 t6
  rw [c5] at t2
  rw [c68] at t3
  rw [c24] at t4
  obtain ⟨k0, e0, _, _⟩ := DataW.trod_int Try.underlying3 t0
  obtain ⟨k1, e1, _, _⟩ := DataW.trod_int Try.underlying3 t1
  obtain ⟨k2, e2, _, _⟩ := DataW.trod_int Try.underlying5 t2
  obtain ⟨k8, e8, _, _⟩ := DataW.trod_int Try.underlying24 t4
  obtain ⟨k9, e9, _, _⟩ := DataW.trod_int Try.underlying3 t5
  obtain ⟨k10, e10, _, _⟩ := DataW.trod_int Try.underlying3 t6
  obtain ⟨zs, m', _, _, _, hzl, hg⟩ := DataW.trod_struct Try.underlying68 t3
  obtain ⟨z0, z1, z2, z3, z4, rfl⟩ := len5 hzl
  have u0 : DataW.trod enc Try.prog w base spare held m' 22 (List.take (Try.prog.cellsOf 22) [x3, x4, x5, x6, x7]) = some z0 := hg 0 _ rfl
  have u1 : DataW.trod enc Try.prog w base spare held m' 22 (List.take (Try.prog.cellsOf 22) [x4, x5, x6, x7]) = some z1 := hg 1 _ rfl
  have u2 : DataW.trod enc Try.prog w base spare held m' 22 (List.take (Try.prog.cellsOf 22) [x5, x6, x7]) = some z2 := hg 2 _ rfl
  have u3 : DataW.trod enc Try.prog w base spare held m' 22 (List.take (Try.prog.cellsOf 22) [x6, x7]) = some z3 := hg 3 _ rfl
  have u4 : DataW.trod enc Try.prog w base spare held m' 22 (List.take (Try.prog.cellsOf 22) [x7]) = some z4 := hg 4 _ rfl

  rw [c22] at u0 u1 u2 u3 u4
  obtain ⟨k3, e3, _, _⟩ := DataW.trod_int Try.underlying22 u0
  obtain ⟨k4, e4, _, _⟩ := DataW.trod_int Try.underlying22 u1
  obtain ⟨k5, e5, _, _⟩ := DataW.trod_int Try.underlying22 u2
  obtain ⟨k6, e6, _, _⟩ := DataW.trod_int Try.underlying22 u3
  obtain ⟨k7, e7, _, _⟩ := DataW.trod_int Try.underlying22 u4
  simp only [List.take_succ_cons, List.take_zero, List.cons.injEq, and_true] at e0 e1 e2 e3 e4 e5 e6 e7 e8 e9 e10
  subst e0 e1 e2 e3 e4 e5 e6 e7 e8 e9 e10
  exact ⟨fun j => [k0, k1, k2, k3, k4, k5, k6, k7, k8, k9, k10].getD j 0, rfl⟩
theorem ress_of {fuel : Nat} {cs : List Value} {x : DataW H × List MemPlace} (hf : DataW.trod enc Try.prog w base spare held fuel 75 cs = some x) :
    ∃ ao len cap R, cs = [.slice ao len cap] ∧ RRow w ao len R := by
  have hC : Try.prog.cellsOf 70 = 11 := by kernel_rfl
  rcases open_slice Try.underlying75 hf with ⟨h, _⟩ | ⟨a, len, cap, m, n, D, Pl, hcs, _, hl, hm, hmm, _, hi⟩
  · exact ⟨none, 0, 0, fun _ _ => 0, h, ⟨by omega, fun i hi => by omega⟩⟩
  · have hlm : len ≤ m := by rw [hmm]; split <;> omega
    have one : ∀ i, ∃ v : Nat → Int, i < len → ∀ j x, (res v).toList[j]? = some x → w.cell? (a.add (i * 11 + j)) = some x := by
      intro i
      by_cases h : i < len
      · obtain ⟨cs', hc, ht'⟩ := hi i (by omega)
        rw [hC] at hc
        obtain ⟨v, rfl⟩ := res_of ht'
        obtain ⟨_, hcl, hat⟩ := World.cells?_some hc
        refine ⟨v, fun _ j x hj => ?_⟩
        have hlt : j < 11 := by
          have := (List.getElem?_eq_some_iff.1 hj).1
          simpa [res] using this
        have := hat j hlt
        rw [Go.Deep.add_add] at this
        exact this.trans hj
      · exact ⟨fun _ => 0, fun h' => absurd h' h⟩
    obtain ⟨R, hR⟩ := Classical.axiomOfChoice one
    refine ⟨some a, len, cap, R, hcs, ⟨by unfold maxLen at hm; omega, fun i h => ?_⟩⟩
    obtain ⟨b, off, spot⟩ := a
    have h0 := hR i h 0 _ rfl
    have hs := World.cell?_spot (hR 0 (by omega) 0 _ rfl)
    have hspot : spot = none := by simpa [Addr.add] using hs
    subst hspot
    have lit : ∀ d, (⟨b, off, none⟩ : Addr).add d = ⟨b, off + d, none⟩ := fun d => by rw [Addr.add_lit]
    rw [lit] at h0
    refine ⟨b, off, rfl, World.block_lt_of_cell? w _ h0, fun j x hj => ?_⟩
    have := hR i h j x hj
    rw [lit] at this
    rw [Nat.add_assoc]
    exact this
end
end Go.Proofs.Ytmdagppeeejikaa
