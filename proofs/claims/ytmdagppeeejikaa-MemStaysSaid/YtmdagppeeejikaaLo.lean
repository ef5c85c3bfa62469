/- A slice of accesses that came in, opened. No condition. -/
import Derived.Test.YtmdagppeeejikaaMv
import Derived.Deep.Slices
import Derived.Deep.Fields
import Derived.ChangeSame
import Derived.OpenShut
namespace Go.Proofs.Ytmdagppeeejikaa
open Go.ChangeShapes Go.WideShapes Go.Deep
set_option linter.unusedVariables false

section
variable {H : Type} {enc : TypeId × Value → H} {w : World} {base : Nat} {spare : Nat → Bool} {held : Bool}
/-- field j of a struct that lies at q: its cell, and how it reads -/
theorem field_of {e : TypeId} {fs : Array Field} {n : Nat} {cs : List Value} {x : DataW H × List MemPlace} {q : Addr} (he : Try.prog.underlying e = some (.struct fs)) (hone : oneCellFields Try.prog fs = true)
    {B : Nat} (hc : w.cells? B q fs.size = some cs) (h : DataW.trod enc Try.prog w base spare held n e cs = some x) (j : Nat) (f : Field) (hj : fs[j]? = some f) :
    ∃ v y m, w.cell? (q.add j) = some v ∧ DataW.trod enc Try.prog w base spare held m f.type [v] = some y := by
  obtain ⟨ys, m, _, _, _, hyl, hf⟩ := DataW.trod_struct he h
  obtain ⟨_, hcl, hat⟩ := World.cells?_some hc
  obtain ⟨ho, hk⟩ := hone_of hone j f hj
  have hlt : j < fs.size := (Array.getElem?_eq_some_iff.1 hj).1
  have hlc : j < cs.length := by omega
  have hly : j < ys.length := by omega
  have h1 := hf j f hj
  rw [ho, hk, List.drop_eq_getElem_cons hlc, List.take_succ_cons, List.take_zero] at h1
  exact ⟨cs[j], ys[j], m, (hat j hlt).trans (List.getElem?_eq_getElem hlc), h1.trans (List.getElem?_eq_getElem hly)⟩
end

section
variable {H : Type} {enc : TypeId × Value → H} {w : World} {base : Nat} {spare : Nat → Bool} {held : Bool}
theorem accs_of {fuel : Nat} {cs : List Value} {x : DataW H × List MemPlace} (hf : DataW.trod enc Try.prog w base spare held fuel 38 cs = some x) :
    ∃ ao len cap X, cs = [.slice ao len cap] ∧ ARow w ao len X := by
  have hC : Try.prog.cellsOf 30 = 4 := by kernel_rfl
  rcases open_slice Try.underlying38 hf with ⟨h, _⟩ | ⟨a, len, cap, m, n, D, Pl, hcs, _, hl, hm, hmm, _, hi⟩
  · exact ⟨none, 0, 0, fun _ => ⟨0, 0, 0, 0⟩, h, ⟨by omega, fun i hi => by omega, fun i hi => by omega⟩⟩
  · have hlm : len ≤ m := by rw [hmm]; split <;> omega
    have one : ∀ i, ∃ y : Acc, i < len → AccOk y ∧ w.cell? (a.add (i * 4 + 0)) = some (.int .u8 y.k) ∧ w.cell? (a.add (i * 4 + 1)) = some (.int .i64 y.t) ∧ w.cell? (a.add (i * 4 + 2)) = some (.int .u64 y.a) ∧ w.cell? (a.add (i * 4 + 3)) = some (.int .u64 y.b) := by
      intro i
      by_cases h : i < len
      · obtain ⟨cs', hc, ht'⟩ := hi i (by omega)
        rw [hC] at hc
        have fl := fun j f hj => field_of (fs := _) Try.underlying30 (by kernel_rfl) hc ht' j f hj
        obtain ⟨v0, y0, m0, hc0, t0⟩ := fl 0 _ rfl
        obtain ⟨v1, y1, m1, hc1, t1⟩ := fl 1 _ rfl
        obtain ⟨v2, y2, m2, hc2, t2⟩ := fl 2 _ rfl
        obtain ⟨v3, y3, m3, hc3, t3⟩ := fl 3 _ rfl
        rw [Go.Deep.add_add] at hc0 hc1 hc2 hc3
        obtain ⟨k, e0, _, w0⟩ := DataW.trod_int Try.underlying5 t0
        obtain ⟨t, e1, _, w1⟩ := DataW.trod_int Try.underlying3 t1
        obtain ⟨x2, e2, _, w2⟩ := DataW.trod_int Try.underlying22 t2
        obtain ⟨x3, e3, _, w3⟩ := DataW.trod_int Try.underlying22 t3
        simp only [List.cons.injEq, and_true] at e0 e1 e2 e3
        subst e0 e1 e2 e3
        have u0 := bounds_u8 w0
        have u1 := bounds_i64 w1
        have u2 := bounds_u64 w2
        have u3 := bounds_u64 w3
        exact ⟨⟨k, t, x2, x3⟩, fun _ => ⟨⟨u0.1, u0.2, u1.1, u1.2, u2.1, by have := u2.2; show x2 < _; omega, u3.1, by have := u3.2; show x3 < _; omega⟩, hc0, hc1, hc2, hc3⟩⟩
      · exact ⟨⟨0, 0, 0, 0⟩, fun h' => absurd h' h⟩
    obtain ⟨X, hX⟩ := Classical.axiomOfChoice one
    refine ⟨some a, len, cap, X, hcs, ⟨by unfold maxLen at hm; omega, fun i h => (hX i h).1, fun i h => ?_⟩⟩
    obtain ⟨b, off, spot⟩ := a
    obtain ⟨_, c0, c1, c2, c3⟩ := hX i h
    have hs := World.cell?_spot (hX 0 (by omega)).2.1
    have hspot : spot = none := by simpa [Addr.add] using hs
    subst hspot
    have lit : ∀ d, (⟨b, off, none⟩ : Addr).add d = ⟨b, off + d, none⟩ := fun d => by rw [Addr.add_lit]
    rw [lit] at c0 c1 c2 c3
    exact ⟨b, off, rfl, World.block_lt_of_cell? w _ c0, ⟨by simpa using c0, by rw [Nat.add_assoc]; exact c1, by rw [Nat.add_assoc]; exact c2, by rw [Nat.add_assoc]; exact c3⟩⟩
end
end Go.Proofs.Ytmdagppeeejikaa
