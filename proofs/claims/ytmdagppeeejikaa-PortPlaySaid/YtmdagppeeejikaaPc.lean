/- Two ports to one memory, and the reference's store, which hold the same. A slice of bools that came in, opened. Condition: the numbers fit their kinds. -/
import Derived.Test.YtmdagppeeejikaaPb
import Derived.Test.YtmdagppeeejikaaNi
import Derived.Test.YtmdagppeeejikaaMv
import Derived.Deep.Slices
import Derived.Deep.Fields
import Derived.ChangeSame
import Derived.OpenShut
namespace Go.Proofs.Ytmdagppeeejikaa
open Go.RowKit Go.ChangeShapes Go.WideShapes Go.Deep
set_option linter.unusedVariables false

/-- bools that came in, an element at a time -/
structure BRow (w : World) (ao : Option Addr) (n : Nat) (Z : Nat → Bool) : Prop where
  len : n ≤ 9223372036854775807
  row : ∀ i, i < n → ∃ b off, ao = some ⟨b, off, none⟩ ∧ b < w.heap.size ∧ w.cell? ⟨b, off + i, none⟩ = some (.bool (Z i))
section
variable {H : Type} {enc : TypeId × Value → H} {w : World} {base : Nat} {spare : Nat → Bool} {held : Bool}
theorem bools_of {fuel : Nat} {cs : List Value} {x : DataW H × List MemPlace} (hf : DataW.trod enc Try.prog w base spare held fuel 61 cs = some x) :
    ∃ ao len cap Z, cs = [.slice ao len cap] ∧ BRow w ao len Z := by
  have hC : Try.prog.cellsOf 4 = 1 := by kernel_rfl
  rcases open_slice Try.underlying61 hf with ⟨h, _⟩ | ⟨a, len, cap, m, n, D, Pl, hcs, _, hl, hm, hmm, _, hi⟩
  · exact ⟨none, 0, 0, fun _ => false, h, ⟨by omega, fun i hi => by omega⟩⟩
  · have hlm : len ≤ m := by rw [hmm]; split <;> omega
    have one : ∀ i, ∃ v : Bool, i < len → w.cell? (a.add i) = some (.bool v) := by
      intro i
      by_cases h : i < len
      · obtain ⟨cs', hc, ht'⟩ := hi i (by omega)
        rw [hC] at hc
        obtain ⟨v, e, _⟩ := DataW.trod_bool Try.underlying4 ht'
        subst e
        obtain ⟨_, hcl, hat⟩ := World.cells?_some hc
        refine ⟨v, fun _ => ?_⟩
        have := hat 0 (by decide)
        rw [Go.Deep.add_add, Nat.mul_one, Nat.add_zero] at this
        exact this
      · exact ⟨false, fun h' => absurd h' h⟩
    obtain ⟨Z, hZ⟩ := Classical.axiomOfChoice one
    refine ⟨some a, len, cap, Z, hcs, ⟨by unfold maxLen at hm; omega, fun i h => ?_⟩⟩
    obtain ⟨b, off, spot⟩ := a
    have h0 := hZ i h
    have hs := World.cell?_spot (hZ 0 (by omega))
    have hspot : spot = none := by simpa [Addr.add] using hs
    subst hspot
    have lit : ∀ d, (⟨b, off, none⟩ : Addr).add d = ⟨b, off + d, none⟩ := fun d => by rw [Addr.add_lit]
    rw [lit] at h0
    exact ⟨b, off, rfl, World.block_lt_of_cell? w _ h0, h0⟩
end

theorem Ref.ch {w w' : World} {base : Nat} {v1 v2 : Value} {W B : List Int} {l : List Nat} (h : Ref w base v1 v2 W B) (hw : Ch l w w') (hl : ∀ k ∈ l, k < base) : Ref w' base v1 v2 W B := by
  have go : ∀ {e size n : Nat} {v : Value} {xs : List Value}, w.ownsRow base e size v n xs → w'.ownsRow base e size v n xs := by
    intro e size n v xs h
    obtain ⟨hl2, h⟩ := h
    refine ⟨hl2, ?_⟩
    rcases h with h | ⟨g, cap, cur, hv, hg, hh, r⟩
    · exact .inl h
    · exact .inr ⟨g, cap, cur, hv, hg, (hw.block g (Array.getElem?_eq_some_iff.1 hh).1 (fun hm => by have := hl g hm; omega)).trans hh, r⟩
  exact ⟨go h.words, go h.bytes⟩

/-- two ports to one memory, and what the reference holds -/
structure Shared (w0 w : World) (N R d1 ws1 d2 ws2 m bw bb : Nat) (s1 s2 : Int) (t2 v1 v2 : Value) (W B W' B' : List Int) : Prop where
  mem : IsMem w m bw bb W B
  p : IsPort w d1 ws1 m 0 s1 (.pointer none)
  q : IsPort w d2 ws2 m 1 s2 t2
  ref : Ref w N v1 v2 W' B'
  top : At w R #[v1, v2] 62
  below : Below w0.heap.size w0 w
  l1 : w0.heap.size ≤ ws1
  l2 : w0.heap.size ≤ ws2
  l3 : w0.heap.size ≤ d2
  l4 : w0.heap.size ≤ bw
  l5 : w0.heap.size ≤ bb
  l6 : w0.heap.size ≤ R
  u1 : ws1 < N
  u2 : ws2 < N
  u3 : d2 < N
  u4 : bw < N
  u5 : bb < N
  u6 : m < N
  u7 : d1 < N
  u8 : N ≤ R
  ne : ws1 ≠ ws2
  nd : d1 ≠ d2
section
variable {w0 w w' : World} {N R d1 ws1 d2 ws2 m bw bb : Nat} {s1 s2 : Int} {t2 v1 v2 : Value} {W B W' B' : List Int}
theorem Shared.after (h : Shared w0 w N R d1 ws1 d2 ws2 m bw bb s1 s2 t2 v1 v2 W B W' B') (hb : Below w.heap.size w w') : Shared w0 w' N R d1 ws1 d2 ws2 m bw bb s1 s2 t2 v1 v2 W B W' B' := by
  obtain ⟨mem, p, q, ref, top, bel, l1, l2, l3, l4, l5, l6, u1, u2, u3, u4, u5, u6, u7, u8, ne, nd⟩ := h
  exact ⟨mem.below hb, p.below hb, q.below hb, ref.below hb, top.below hb, bnext bel hb, l1, l2, l3, l4, l5, l6, u1, u2, u3, u4, u5, u6, u7, u8, ne, nd⟩
theorem Shared.stepP {k t a b : Int} (h : Shared w0 w N R d1 ws1 d2 ws2 m bw bb s1 s2 t2 v1 v2 W B W' B') (D : PDo d1 ws1 m bw bb 0 s1 (.pointer none) W B k t a b w w') :
    Shared w0 w' N R d1 ws1 d2 ws2 m bw bb (s1 + 1) s2 t2 v1 v2 (wD W k t a b) (bD B k t a) W' B' := by
  obtain ⟨mem, p, q, ref, top, bel, l1, l2, l3, l4, l5, l6, u1, u2, u3, u4, u5, u6, u7, u8, ne, nd⟩ := h
  have k1 : d2 ≠ ws1 := q.top.ne p.ways (by decide)
  have k2 : d2 ≠ bw := q.top.ne mem.words (by decide)
  have k3 : d2 ≠ bb := q.top.ne mem.bytes (by decide)
  have k4 : ws2 ≠ bw := q.ways.ne mem.words (by decide)
  have k5 : ws2 ≠ bb := q.ways.ne mem.bytes (by decide)
  refine ⟨D.mem, D.port, q.ch D.ch (by simp; omega) (by simp; omega), ref.ch D.ch ?_, top.ch D.ch (by simp; omega), Ch.below bel D.ch bel.size ?_, l1, l2, l3, l4, l5, l6, u1, u2, u3, u4, u5, u6, u7, u8, ne, nd⟩
  · intro k hk; simp at hk; omega
  · intro k hk; simp at hk; omega
theorem Shared.stepQ {k t a b : Int} (h : Shared w0 w N R d1 ws1 d2 ws2 m bw bb s1 s2 t2 v1 v2 W B W' B') (D : PDo d2 ws2 m bw bb 1 s2 t2 W B k t a b w w') :
    Shared w0 w' N R d1 ws1 d2 ws2 m bw bb s1 (s2 + 1) t2 v1 v2 (wD W k t a b) (bD B k t a) W' B' := by
  obtain ⟨mem, p, q, ref, top, bel, l1, l2, l3, l4, l5, l6, u1, u2, u3, u4, u5, u6, u7, u8, ne, nd⟩ := h
  have k1 : d1 ≠ ws2 := p.top.ne q.ways (by decide)
  have k2 : d1 ≠ bw := p.top.ne mem.words (by decide)
  have k3 : d1 ≠ bb := p.top.ne mem.bytes (by decide)
  have k4 : ws1 ≠ bw := p.ways.ne mem.words (by decide)
  have k5 : ws1 ≠ bb := p.ways.ne mem.bytes (by decide)
  refine ⟨D.mem, p.ch D.ch (by simp; omega) (by simp; omega), D.port, ref.ch D.ch ?_, top.ch D.ch (by simp; omega), Ch.below bel D.ch bel.size ?_, l1, l2, l3, l4, l5, l6, u1, u2, u3, u4, u5, u6, u7, u8, ne, nd⟩
  · intro k hk; simp at hk; omega
  · intro k hk; simp at hk; omega
theorem Shared.tell {t2' : Value} (h : Shared w0 w N R d1 ws1 d2 ws2 m bw bb s1 s2 t2 v1 v2 W B W' B') (Q : IsPort w' d2 ws2 m 1 s2 t2') (c : Ch [d2] w w') :
    Shared w0 w' N R d1 ws1 d2 ws2 m bw bb s1 s2 t2' v1 v2 W B W' B' := by
  obtain ⟨mem, p, q, ref, top, bel, l1, l2, l3, l4, l5, l6, u1, u2, u3, u4, u5, u6, u7, u8, ne, nd⟩ := h
  have k1 : ws1 ≠ d2 := p.ways.ne q.top (by decide)
  have k2 : m ≠ d2 := mem.top.ne q.top (by decide)
  have k3 : bw ≠ d2 := mem.words.ne q.top (by decide)
  have k4 : bb ≠ d2 := mem.bytes.ne q.top (by decide)
  refine ⟨mem.ch c (by simp; omega) (by simp; omega) (by simp; omega), p.ch c (by simp; omega) (by simp; omega), Q, ref.ch c ?_, top.ch c (by simp; omega), Ch.below bel c bel.size ?_, l1, l2, l3, l4, l5, l6, u1, u2, u3, u4, u5, u6, u7, u8, ne, nd⟩
  · intro k hk; simp at hk; omega
  · intro k hk; simp at hk; omega
/-- the reference's store takes what Do left -/
theorem Shared.take {z : World} {u1' u2' : Value} {W2 B2 : List Int} (h : Shared w0 z N R d1 ws1 d2 ws2 m bw bb s1 s2 t2 v1 v2 W B W' B') (hR : Ref z N u1' u2' W2 B2) :
    Shared w0 ((z.setCell ⟨R, 0, none⟩ u1').setCell ⟨R, 1, none⟩ u2') N R d1 ws1 d2 ws2 m bw bb s1 s2 t2 u1' u2' W B W2 B2 := by
  obtain ⟨mem, p, q, ref, top, bel, l1, l2, l3, l4, l5, l6, u1, u2, u3, u4, u5, u6, u7, u8, ne, nd⟩ := h
  have c : Ch [R] z ((z.setCell ⟨R, 0, none⟩ u1').setCell ⟨R, 1, none⟩ u2') := ((Ch.refl _ z).setCell (by simp) _).setCell (by simp) _
  have noR : ∀ {e size n : Nat} {v : Value} {xs : List Value}, z.ownsRow N e size v n xs → e ≠ 62 → ∀ k, v.ownBlock = some k → k ≠ R := by
    intro e size n v xs h hne k hk
    rcases h.2 with ⟨rfl, _⟩ | ⟨g, cap, cur, rfl, hg, hh, _⟩
    · simp [Value.ownBlock] at hk
    · simp [Value.ownBlock] at hk
      subst hk
      exact At.ne (cs := cur) (t := e) hh top hne
  have o1 := own_cell (own_cell hR.words ⟨R, 0, none⟩ u1' (noR hR.words (by decide))) ⟨R, 1, none⟩ u2' (noR hR.words (by decide))
  have o2 := own_cell (own_cell hR.bytes ⟨R, 0, none⟩ u1' (noR hR.bytes (by decide))) ⟨R, 1, none⟩ u2' (noR hR.bytes (by decide))
  refine ⟨mem.ch c (by simp; omega) (by simp; omega) (by simp; omega), p.ch c (by simp; omega) (by simp; omega), q.ch c (by simp; omega) (by simp; omega), ⟨o1, o2⟩, set_two4 top _ _, (bel.setCell l6 _).setCell l6 _, l1, l2, l3, l4, l5, l6, u1, u2, u3, u4, u5, u6, u7, u8, ne, nd⟩
end
end Go.Proofs.Ytmdagppeeejikaa
