/- Two ports, each with a memory of its own. Condition: the numbers fit their kinds. -/
import Derived.Test.YtmdagppeeejikaaNe
import Derived.Test.YtmdagppeeejikaaMv
namespace Go.Proofs.Ytmdagppeeejikaa
open Go.RowKit
set_option linter.unusedVariables false

theorem PH.other {w0 w w' : World} {d ws m bw bb : Nat} {sf s : Int} {told : Value} {W B : List Int} {l : List Nat} (h : PH w0 w d ws m bw bb sf s told W B) (c : Ch l w w') (hl : ∀ k ∈ l, w0.heap.size ≤ k)
    (n1 : d ∉ l) (n2 : ws ∉ l) (n3 : m ∉ l) (n4 : bw ∉ l) (n5 : bb ∉ l) : PH w0 w' d ws m bw bb sf s told W B :=
  ⟨h.port.ch c n1 n2, h.mem.ch c n3 n4 n5, Ch.below h.below c h.below.size hl, h.ls, h.lw, h.lb, h.ld⟩

/-- two ports with memories of their own -/
structure Both (w0 w : World) (N d1 ws1 m1 bw1 bb1 d2 ws2 m2 bw2 bb2 : Nat) (s1 s2 : Int) (t1 t2 : Value) (W1 B1 W2 B2 : List Int) : Prop where
  p : PH w0 w d1 ws1 m1 bw1 bb1 0 s1 t1 W1 B1
  q : PH w0 w d2 ws2 m2 bw2 bb2 0 s2 t2 W2 B2
  pd : d1 < N
  ps : ws1 < N
  pm : m1 < N
  pw : bw1 < N
  pb : bb1 < N
  qd : N ≤ d2
  qs : N ≤ ws2
  qm : N ≤ m2
  qw : N ≤ bw2
  qb : N ≤ bb2
section
variable {w0 w w' : World} {N d1 ws1 m1 bw1 bb1 d2 ws2 m2 bw2 bb2 : Nat} {s1 s2 : Int} {t1 t2 : Value} {W1 B1 W2 B2 : List Int}
theorem Both.after (h : Both w0 w N d1 ws1 m1 bw1 bb1 d2 ws2 m2 bw2 bb2 s1 s2 t1 t2 W1 B1 W2 B2) (hb : Below w.heap.size w w') : Both w0 w' N d1 ws1 m1 bw1 bb1 d2 ws2 m2 bw2 bb2 s1 s2 t1 t2 W1 B1 W2 B2 :=
  ⟨h.p.after hb, h.q.after hb, h.pd, h.ps, h.pm, h.pw, h.pb, h.qd, h.qs, h.qm, h.qw, h.qb⟩
theorem Both.stepP {k t a b : Int} (h : Both w0 w N d1 ws1 m1 bw1 bb1 d2 ws2 m2 bw2 bb2 s1 s2 t1 t2 W1 B1 W2 B2) (D : PDo d1 ws1 m1 bw1 bb1 0 s1 t1 W1 B1 k t a b w w') :
    Both w0 w' N d1 ws1 m1 bw1 bb1 d2 ws2 m2 bw2 bb2 (s1 + 1) s2 t1 t2 (wD W1 k t a b) (bD B1 k t a) W2 B2 := by
  obtain ⟨p, q, pd, ps, pm, pw, pb, qd, qs, qm, qw, qb⟩ := h
  refine ⟨p.step D, q.other D.ch ?_ ?_ ?_ ?_ ?_ ?_, pd, ps, pm, pw, pb, qd, qs, qm, qw, qb⟩
  · intro k hk
    simp at hk
    rcases hk with rfl | rfl | rfl
    · exact p.ls
    · exact p.lw
    · exact p.lb
  all_goals simp; omega
theorem Both.stepQ {k t a b : Int} (h : Both w0 w N d1 ws1 m1 bw1 bb1 d2 ws2 m2 bw2 bb2 s1 s2 t1 t2 W1 B1 W2 B2) (D : PDo d2 ws2 m2 bw2 bb2 0 s2 t2 W2 B2 k t a b w w') :
    Both w0 w' N d1 ws1 m1 bw1 bb1 d2 ws2 m2 bw2 bb2 s1 (s2 + 1) t1 t2 W1 B1 (wD W2 k t a b) (bD B2 k t a) := by
  obtain ⟨p, q, pd, ps, pm, pw, pb, qd, qs, qm, qw, qb⟩ := h
  refine ⟨p.other D.ch ?_ ?_ ?_ ?_ ?_ ?_, q.step D, pd, ps, pm, pw, pb, qd, qs, qm, qw, qb⟩
  · intro k hk
    simp at hk
    rcases hk with rfl | rfl | rfl
    · exact q.ls
    · exact q.lw
    · exact q.lb
  all_goals simp; omega
/-- a block of neither -/
theorem Both.inP (h : Both w0 w N d1 ws1 m1 bw1 bb1 d2 ws2 m2 bw2 bb2 s1 s2 t1 t2 W1 B1 W2 B2) {x : Nat} (hx : w.heap.size ≤ x) : x ∉ [ws1, bw1, bb1] := by
  have := h.p.port.ways.lt; have := h.p.mem.words.lt; have := h.p.mem.bytes.lt
  simp; omega
theorem Both.inQ (h : Both w0 w N d1 ws1 m1 bw1 bb1 d2 ws2 m2 bw2 bb2 s1 s2 t1 t2 W1 B1 W2 B2) {x : Nat} (hx : w.heap.size ≤ x) : x ∉ [ws2, bw2, bb2] := by
  have := h.q.port.ways.lt; have := h.q.mem.words.lt; have := h.q.mem.bytes.lt
  simp; omega
end
/-- a port to a memory of its own, behind others -/
theorem Both.made {w0 w2 w3 w4 : World} {d1 ws1 m1 bw1 bb1 d2 ws2 m2 bw2 bb2 : Nat} {W1 B1 W2 B2 : List Int} (P : PH w0 w2 d1 ws1 m1 bw1 bb1 0 0 (.pointer none) W1 B1)
    (H : Hold w2 w3 m2 bw2 bb2 W2 B2) (Q : IsPort w4 d2 ws2 m2 0 0 (.pointer none)) (hb : Below w3.heap.size w3 w4) (l1 : w3.heap.size ≤ d2) (l2 : w3.heap.size ≤ ws2) :
    Both w0 w4 w2.heap.size d1 ws1 m1 bw1 bb1 d2 ws2 m2 bw2 bb2 0 0 (.pointer none) (.pointer none) W1 B1 W2 B2 := by
  have hs := H.below.size
  refine ⟨P.after (bnext H.below hb), PH.made (H.from P.below) Q hb l1 l2, P.port.top.lt, P.port.ways.lt, P.mem.top.lt, P.mem.words.lt, P.mem.bytes.lt, by omega, by omega, H.lp, H.lw, H.lb⟩

theorem out_D (W B : List Int) (k t a b : Int) (h1 : k ≤ 4 → t < 0 ∨ (W.length : Int) ≤ t) (h2 : 5 ≤ k → t < 0 ∨ (B.length : Int) ≤ t) : tD W B k t a = 0 ∧ wD W k t a b = W ∧ bD B k t a = B := by
  have e1 : inW W k t = false := by
    simp [inW]
    intro h3 h4 h5
    rcases h1 h4 with h | h <;> omega
  have e2 : inB B k t = false := by
    simp [inB]
    intro h3 h4 h5
    rcases h2 h3 with h | h <;> omega
  simp [tD, wD, bD, e1, e2]
theorem load_D (W B : List Int) (t : Int) : wD W 1 t 0 0 = W ∧ bD B 1 t 0 = B := by
  constructor
  · unfold wD
    split
    · rename_i h
      simp [inW] at h
      simp [nowW, List.getD]
      rw [List.getElem?_eq_getElem (by omega)]
      simp
    · rfl
  · simp [bD]
theorem get_D (W B : List Int) (t : Int) : wD W 5 t 0 0 = W ∧ bD B 5 t 0 = B := by simp [wD, bD, inW]
end Go.Proofs.Ytmdagppeeejikaa
