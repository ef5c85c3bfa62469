/- class.Make of a slice that came in; what class.Of tells, class by class. Condition: at most 1000 sizes. -/
import Derived.Test.YtjbcffcjepkbgaaAw
import Derived.Test.YtjbcffcjepkbgaaKn
namespace Go.Proofs.Ytjbcffcjepkbgaa
open Go.RowKit

/-- what is known of a slice of integers that came in -/
def IsRow (k : IntKind) (w : World) (a : Option Addr) (len cap : Nat) (zs : List Int) : Prop :=
  (a = none ∧ len = 0 ∧ cap = 0 ∧ zs = []) ∨
  ∃ x, a = some x ∧ len ≤ cap ∧ cap ≤ maxLen ∧ zs.length = cap ∧ (∀ i, i < zs.length → w.cell? (x.add i) = some (.int k (zs.getD i 0))) ∧ ∀ n ∈ zs, (Lit.int k n).wf = true

theorem IsRow.below {k : IntKind} {w w' : World} {a : Option Addr} {len cap : Nat} {zs : List Int} (h : IsRow k w a len cap zs) (hb : Below w.heap.size w w') : IsRow k w' a len cap zs := by
  rcases h with h | ⟨x, ha, h1, h2, h3, h4, h5⟩
  · exact .inl h
  · refine .inr ⟨x, ha, h1, h2, h3, fun i hi => ?_, h5⟩
    have hc := h4 i hi
    rw [hb.cell (World.block_lt_of_cell? w _ hc)]
    exact hc

theorem make_row (a : Option Addr) (len cap : Nat) (zs : List Int) (w : World) (h : IsRow .i64 w a len cap zs) (hl : len ≤ 1000) :
    Calls Try.prog 9 #[.slice a len cap] w fun e w' => ∃ v, e = .returned v ∧ w'.ownsRow w.heap.size 23 3 v (G (zs.take len)).length (C (zs.take len)) ∧ Below w.heap.size w w' := by
  by_cases h0 : len = 0
  · subst h0
    refine (make_nil a cap w).mono fun e w' ⟨he, hw⟩ => ?_
    subst hw
    exact ⟨_, he, World.ownsRow_nil _ _ _ _, Below.refl _ _⟩
  · rcases h with ⟨_, h, _⟩ | ⟨x, rfl, h1, h2, h3, h4, h5⟩
    · omega
    · obtain ⟨b, off, spot⟩ := x
      have hc := h4 0 (by omega)
      have hspot : spot = none := by simpa [Addr.add] using World.cell?_spot hc
      subst hspot
      have hb := World.block_lt_of_cell? w _ hc
      refine make_any b off len cap (zs.take len) w (by simp; omega) hl (by simpa [Addr.add] using hb) fun i hi => ?_
      have := h4 i (by omega)
      rw [Addr.add_lit] at this
      rw [this]
      simp [List.getD, hi]

/-- is class i enough? -/
def En (s a i : Int) : Bool := (decide (1 ≤ s) && pw a) && en s a i
theorem of_alt (s a : Int) : ofI s a = if En s a 0 then 0 else if En s a 1 then 1 else if En s a 2 then 2 else if En s a 3 then 3 else -1 := by
  unfold ofI En
  cases (decide (1 ≤ s) && pw a)
  · simp
  · simp only [Bool.true_and]
    rfl
theorem of_spec (s a : Int) : ((En s a 0 = true → ofI s a = 0) ∧ (En s a 0 = false → ofI s a ≠ 0)) ∧ ((En s a 1 = true → 0 ≤ ofI s a ∧ ofI s a ≤ 1) ∧ (En s a 1 = false → ofI s a ≠ 1)) ∧
    ((En s a 2 = true → 0 ≤ ofI s a ∧ ofI s a ≤ 2) ∧ (En s a 2 = false → ofI s a ≠ 2)) ∧ ((En s a 3 = true → 0 ≤ ofI s a ∧ ofI s a ≤ 3) ∧ (En s a 3 = false → ofI s a ≠ 3)) := by
  rw [of_alt]
  cases En s a 0 <;> cases En s a 1 <;> cases En s a 2 <;> cases En s a 3 <;> decide
theorem of_bounds (s a : Int) : -1 ≤ ofI s a ∧ ofI s a ≤ 3 := by
  rw [of_alt]
  cases En s a 0 <;> cases En s a 1 <;> cases En s a 2 <;> cases En s a 3 <;> decide
theorem good_cases {n : Int} (h : good n = true) : n = 8 ∨ n = 16 ∨ n = 24 ∨ n = 32 ∨ n = 40 ∨ n = 48 ∨ n = 56 ∨ n = 64 := by
  simp [good] at h; omega
theorem G_good {zs : List Int} {k : Nat} (h : k < (G zs).length) : good ((G zs).getD k 0) = true := by
  have : (G zs).getD k 0 ∈ G zs := by simp [List.getD, h]
  exact (List.mem_filter.1 this).2
theorem flat_get : ∀ (l : List Int) (k j : Nat), k < l.length → j < 3 → (l.flatMap cls)[k * 3 + j]? = (cls (l.getD k 0))[j]?
  | [], k, j, h, _ => by simp at h
  | x :: l, 0, j, _, hj => by
    rw [List.flatMap_cons, List.getElem?_append_left (by simp [cls]; omega)]
    simp
  | x :: l, k + 1, j, h, hj => by
    rw [List.flatMap_cons, List.getElem?_append_right (by simp [cls]; omega)]
    have e : (k + 1) * 3 + j - (cls x).length = k * 3 + j := by simp [cls]; omega
    rw [e, flat_get l k j (by simpa using h) hj]
    simp
theorem and8 : bits .and .i64 8 7 = 0 := by kernel_rfl
theorem and16 : bits .and .i64 16 15 = 0 := by kernel_rfl
theorem and32 : bits .and .i64 32 31 = 0 := by kernel_rfl
theorem and64 : bits .and .i64 64 63 = 0 := by kernel_rfl
theorem cls8 : cls 8 = [.int .i64 8, .int .i64 8, .int .i64 8] := by kernel_rfl
theorem cls16 : cls 16 = [.int .i64 16, .int .i64 16, .int .i64 4] := by kernel_rfl
theorem cls24 : cls 24 = [.int .i64 24, .int .i64 8, .int .i64 2] := by kernel_rfl
theorem cls32 : cls 32 = [.int .i64 32, .int .i64 32, .int .i64 2] := by kernel_rfl
theorem cls40 : cls 40 = [.int .i64 40, .int .i64 8, .int .i64 1] := by kernel_rfl
theorem cls48 : cls 48 = [.int .i64 48, .int .i64 16, .int .i64 1] := by kernel_rfl
theorem cls56 : cls 56 = [.int .i64 56, .int .i64 8, .int .i64 1] := by kernel_rfl
theorem cls64 : cls 64 = [.int .i64 64, .int .i64 64, .int .i64 1] := by kernel_rfl
end Go.Proofs.Ytjbcffcjepkbgaa
