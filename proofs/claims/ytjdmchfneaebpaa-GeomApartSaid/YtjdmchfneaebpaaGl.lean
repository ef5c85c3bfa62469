/- The words of a geometry, region by region: each number is one word's. Plain law, no program. -/
import Derived.Test.YtjdmchfneaebpaaGs
namespace Go.Proofs.Ytjdmchfneaebpaa
open Go.RowKit
set_option linter.unusedVariables false

def rowA1 (c : Nat → Int) (i : Nat) : List Int := if i < 5 then [c 2 + i] else []
def rowA2 (c : Nat → Int) (i : Nat) : List Int := if i < 4 then [c 5 + i] else []
def rowA (c : Nat → Int) (i : Nat) : List Int := rowA1 c i ++ rowA2 c i ++ [c 3 + i]
def rowB2 (c : Nat → Int) (i k : Nat) : List Int := [c 10 + (8 * i + k), c 11 + (8 * i + k)]
def rowB (c : Nat → Int) (i : Nat) : List Int := [c 7 + i, c 8 + i, c 9 + i] ++ (List.range 8).flatMap (rowB2 c i)
def rowC2 (c : Nat → Int) (i k : Nat) : List Int := [c 13 + (i * 4 + k), c 12 + ((i * 4 + k) * 2 + 0), c 12 + ((i * 4 + k) * 2 + 1)]
def rowC3 (c : Nat → Int) (m i k : Nat) : List Int := [c 16 + (i * m + k)]
def rowC1 (c : Nat → Int) (i : Nat) : List Int := [c 6 + i, c 15 + i, c 14 + (i * 2 + 0), c 14 + (i * 2 + 1)] ++ (List.range 4).flatMap (rowC2 c i)
def rowC (c : Nat → Int) (m i : Nat) : List Int := rowC1 c i ++ (List.range m).flatMap (rowC3 c m i)
def rowD2 (c : Nat → Int) (i k : Nat) : List Int := [c 18 + (i * 8 + k)]
def rowD (c : Nat → Int) (i : Nat) : List Int := [c 17 + i] ++ (List.range 8).flatMap (rowD2 c i)
def lstA (c : Nat → Int) (i : Nat) : List Int := [c 0, c 1, c 4] ++ (List.range i).flatMap (rowA c)
def lstB (c : Nat → Int) (i : Nat) : List Int := lstA c 9 ++ (List.range i).flatMap (rowB c)
def lstC (c : Nat → Int) (n m i : Nat) : List Int := lstB c n ++ (List.range i).flatMap (rowC c m)
def lstD (c : Nat → Int) (n t m i : Nat) : List Int := lstC c n m t ++ (List.range i).flatMap (rowD c)

structure Lay (c : Nat → Int) (n t m q : Nat) : Prop where
  l0 : c 0 = 0
  l1 : c 1 = c 0 + 1
  l2 : c 2 = c 1 + 1
  l3 : c 3 = c 2 + 5
  l4 : c 4 = c 3 + 9
  l5 : c 5 = c 4 + 1
  l6 : c 6 = c 5 + 4
  l7 : c 7 = c 6 + t
  l8 : c 8 = c 7 + n
  l9 : c 9 = c 8 + n
  l10 : c 10 = c 9 + n
  l11 : c 11 = c 10 + n * 8
  l12 : c 12 = c 11 + n * 8
  l13 : c 13 = c 12 + t * 4 * 2
  l14 : c 14 = c 13 + t * 4
  l15 : c 15 = c 14 + t * 2
  l16 : c 16 = c 15 + t
  l17 : c 17 = c 16 + t * m
  l18 : c 18 = c 17 + q
  l19 : c 19 = c 18 + q * 8

theorem len_flat {α β : Type} (f : α → List β) (k : Nat) : ∀ l : List α, (∀ x ∈ l, (f x).length = k) → (l.flatMap f).length = l.length * k := by
  intro l
  induction l with
  | nil => intro _; simp
  | cons x l ih =>
    intro h
    rw [List.flatMap_cons, List.length_append, h x (by simp), ih (fun y hy => h y (by simp [hy])), List.length_cons, Nat.add_mul]
    omega
theorem len_rowB (c : Nat → Int) (i : Nat) : (rowB c i).length = 19 := by
  unfold rowB; rw [List.length_append, len_flat (rowB2 c i) 2 _ (fun _ _ => rfl), List.length_range]; rfl
theorem len_rowC (c : Nat → Int) (m i : Nat) : (rowC c m i).length = 16 + m := by
  unfold rowC rowC1; rw [List.length_append, List.length_append, len_flat (rowC2 c i) 3 _ (fun _ _ => rfl), len_flat (rowC3 c m i) 1 _ (fun _ _ => rfl), List.length_range, List.length_range]; simp
theorem len_rowD (c : Nat → Int) (i : Nat) : (rowD c i).length = 9 := by
  unfold rowD; rw [List.length_append, len_flat (rowD2 c i) 1 _ (fun _ _ => rfl), List.length_range]; rfl
theorem len_lstA (c : Nat → Int) : (lstA c 9).length = 21 := rfl
theorem len_lst (c : Nat → Int) (n t m q : Nat) : (lstD c n t m q).length = 21 + n * 19 + t * (16 + m) + q * 9 := by
  unfold lstD lstC lstB
  rw [List.length_append, List.length_append, List.length_append, len_lstA, len_flat _ 19 _ (fun i _ => len_rowB c i), len_flat _ (16 + m) _ (fun i _ => len_rowC c m i), len_flat _ 9 _ (fun i _ => len_rowD c i), List.length_range, List.length_range, List.length_range]
theorem len_all {c : Nat → Int} {n t m q : Nat} (h : Lay c n t m q) : ((lstD c n t m q).length : Int) = c 19 := by
  obtain ⟨l0, l1, l2, l3, l4, l5, l6, l7, l8, l9, l10, l11, l12, l13, l14, l15, l16, l17, l18, l19⟩ := h
  rw [len_lst, Nat.mul_add]
  have : ((t * m : Nat) : Int) = (t : Int) * m := Int.natCast_mul _ _
  omega

theorem in_rowA {c : Nat → Int} {i : Nat} {x : Int} (hx : x ∈ rowA c i) : (i < 5 ∧ x = c 2 + i) ∨ (i < 4 ∧ x = c 5 + i) ∨ x = c 3 + i := by
  unfold rowA rowA1 rowA2 at hx
  simp only [List.mem_append] at hx
  rcases hx with (hx | hx) | hx
  · split at hx <;> simp at hx; exact .inl ⟨by assumption, hx⟩
  · split at hx <;> simp at hx; exact .inr (.inl ⟨by assumption, hx⟩)
  · simp at hx; exact .inr (.inr hx)
theorem in_rowB2 {c : Nat → Int} {i : Nat} {x : Int} (hx : x ∈ (List.range 8).flatMap (rowB2 c i)) : (c 10 + 8 * i ≤ x ∧ x < c 10 + 8 * i + 8) ∨ (c 11 + 8 * i ≤ x ∧ x < c 11 + 8 * i + 8) := by
  obtain ⟨k, hk, hx⟩ := List.mem_flatMap.1 hx
  have hk := List.mem_range.1 hk
  simp [rowB2] at hx; omega
theorem in_rowB {c : Nat → Int} {i : Nat} {x : Int} (hx : x ∈ rowB c i) : (x = c 7 + i ∨ x = c 8 + i ∨ x = c 9 + i) ∨ (c 10 + 8 * i ≤ x ∧ x < c 10 + 8 * i + 8) ∨ (c 11 + 8 * i ≤ x ∧ x < c 11 + 8 * i + 8) := by
  unfold rowB at hx
  rcases List.mem_append.1 hx with hx | hx
  · simp at hx; exact .inl hx
  · exact .inr (in_rowB2 hx)
theorem in_rowC2 {c : Nat → Int} {i : Nat} {x : Int} (hx : x ∈ (List.range 4).flatMap (rowC2 c i)) : (c 13 + 4 * i ≤ x ∧ x < c 13 + 4 * i + 4) ∨ (c 12 + 8 * i ≤ x ∧ x < c 12 + 8 * i + 8) := by
  obtain ⟨k, hk, hx⟩ := List.mem_flatMap.1 hx
  have hk := List.mem_range.1 hk
  simp [rowC2] at hx; omega
theorem in_rowC3 {c : Nat → Int} {m i : Nat} {x : Int} (hx : x ∈ (List.range m).flatMap (rowC3 c m i)) : c 16 + i * m ≤ x ∧ x < c 16 + i * m + m := by
  obtain ⟨k, hk, hx⟩ := List.mem_flatMap.1 hx
  have hk := List.mem_range.1 hk
  simp [rowC3] at hx; omega
theorem in_rowC1 {c : Nat → Int} {i : Nat} {x : Int} (hx : x ∈ rowC1 c i) : (x = c 6 + i ∨ x = c 15 + i ∨ x = c 14 + i * 2 ∨ x = c 14 + i * 2 + 1) ∨ (c 13 + 4 * i ≤ x ∧ x < c 13 + 4 * i + 4) ∨ (c 12 + 8 * i ≤ x ∧ x < c 12 + 8 * i + 8) := by
  unfold rowC1 at hx
  rcases List.mem_append.1 hx with hx | hx
  · simp at hx; exact .inl (by omega)
  · exact .inr (in_rowC2 hx)
theorem in_rowC {c : Nat → Int} {m i : Nat} {x : Int} (hx : x ∈ rowC c m i) : ((x = c 6 + i ∨ x = c 15 + i ∨ x = c 14 + i * 2 ∨ x = c 14 + i * 2 + 1) ∨ (c 13 + 4 * i ≤ x ∧ x < c 13 + 4 * i + 4) ∨ (c 12 + 8 * i ≤ x ∧ x < c 12 + 8 * i + 8)) ∨ (c 16 + i * m ≤ x ∧ x < c 16 + i * m + m) := by
  unfold rowC at hx
  rcases List.mem_append.1 hx with hx | hx
  · exact .inl (in_rowC1 hx)
  · exact .inr (in_rowC3 hx)
theorem in_rowD {c : Nat → Int} {i : Nat} {x : Int} (hx : x ∈ rowD c i) : x = c 17 + i ∨ (c 18 + 8 * i ≤ x ∧ x < c 18 + 8 * i + 8) := by
  unfold rowD at hx
  rcases List.mem_append.1 hx with hx | hx
  · simp at hx; exact .inl hx
  · obtain ⟨k, hk, hx⟩ := List.mem_flatMap.1 hx
    have hk := List.mem_range.1 hk
    simp [rowD2] at hx; exact .inr (by omega)

abbrev Ap (l : List Int) : Prop := l.Pairwise (· ≠ ·)
theorem ap_flat {f : Nat → List Int} {n : Nat} (h1 : ∀ i, i < n → Ap (f i)) (h2 : ∀ i j, i < j → j < n → ∀ x ∈ f i, ∀ y ∈ f j, x ≠ y) : Ap ((List.range n).flatMap f) := by
  refine List.pairwise_flatMap.2 ⟨fun i hi => h1 i (List.mem_range.1 hi), ?_⟩
  refine List.Pairwise.imp_of_mem (R := fun i j => i < j) ?_ List.pairwise_lt_range
  intro i j hi hj hij
  exact h2 i j hij (List.mem_range.1 hj)
theorem ap_app {a b : List Int} (h1 : Ap a) (h2 : Ap b) (h : ∀ x ∈ a, ∀ y ∈ b, x ≠ y) : Ap (a ++ b) := List.pairwise_append.2 ⟨h1, h2, h⟩

theorem mul_row {i t m : Nat} (h : i < t) : (i : Int) * m + m ≤ t * m := by
  have : (i + 1) * m ≤ t * m := Nat.mul_le_mul_right m (by omega)
  rw [Nat.add_mul, Nat.one_mul] at this
  have := Int.ofNat_le.2 this
  push_cast at this; exact this
theorem mul_pos' (i m : Nat) : 0 ≤ (i : Int) * m := by
  have : ((i * m : Nat) : Int) = (i : Int) * m := Int.natCast_mul _ _
  omega

theorem in_lstA {c : Nat → Int} {n t m q : Nat} (h : Lay c n t m q) {x : Int} (hx : x ∈ lstA c 9) : 0 ≤ x ∧ x < c 6 := by
  obtain ⟨l0, l1, l2, l3, l4, l5, l6, l7, l8, l9, l10, l11, l12, l13, l14, l15, l16, l17, l18, l19⟩ := h
  unfold lstA at hx
  rcases List.mem_append.1 hx with hx | hx
  · simp at hx; omega
  · obtain ⟨k, hk, hx⟩ := List.mem_flatMap.1 hx
    have hk := List.mem_range.1 hk
    have := in_rowA hx; omega
theorem in_partB {c : Nat → Int} {n t m q : Nat} (h : Lay c n t m q) {x : Int} (hx : x ∈ (List.range n).flatMap (rowB c)) : c 7 ≤ x ∧ x < c 12 := by
  obtain ⟨l0, l1, l2, l3, l4, l5, l6, l7, l8, l9, l10, l11, l12, l13, l14, l15, l16, l17, l18, l19⟩ := h
  obtain ⟨k, hk, hx⟩ := List.mem_flatMap.1 hx
  have hk := List.mem_range.1 hk
  have := in_rowB hx; omega
theorem in_partC {c : Nat → Int} {n t m q : Nat} (h : Lay c n t m q) {x : Int} (hx : x ∈ (List.range t).flatMap (rowC c m)) : (c 6 ≤ x ∧ x < c 7) ∨ (c 12 ≤ x ∧ x < c 17) := by
  obtain ⟨l0, l1, l2, l3, l4, l5, l6, l7, l8, l9, l10, l11, l12, l13, l14, l15, l16, l17, l18, l19⟩ := h
  obtain ⟨k, hk, hx⟩ := List.mem_flatMap.1 hx
  have hk := List.mem_range.1 hk
  have := mul_row (m := m) hk
  have := mul_pos' k m
  have := in_rowC hx; omega
theorem in_partD {c : Nat → Int} {n t m q : Nat} (h : Lay c n t m q) {x : Int} (hx : x ∈ (List.range q).flatMap (rowD c)) : c 17 ≤ x ∧ x < c 19 := by
  obtain ⟨l0, l1, l2, l3, l4, l5, l6, l7, l8, l9, l10, l11, l12, l13, l14, l15, l16, l17, l18, l19⟩ := h
  obtain ⟨k, hk, hx⟩ := List.mem_flatMap.1 hx
  have hk := List.mem_range.1 hk
  have := in_rowD hx; omega
theorem in_all {c : Nat → Int} {n t m q : Nat} (h : Lay c n t m q) {x : Int} (hx : x ∈ lstD c n t m q) : 0 ≤ x ∧ x < c 19 := by
  have hh := h
  obtain ⟨l0, l1, l2, l3, l4, l5, l6, l7, l8, l9, l10, l11, l12, l13, l14, l15, l16, l17, l18, l19⟩ := hh
  have := mul_pos' t m
  unfold lstD lstC lstB at hx
  rcases List.mem_append.1 hx with hx | hx
  · rcases List.mem_append.1 hx with hx | hx
    · rcases List.mem_append.1 hx with hx | hx
      · have := in_lstA h hx; omega
      · have := in_partB h hx; omega
    · have := in_partC h hx; omega
  · have := in_partD h hx; omega

set_option maxHeartbeats 4000000 in
theorem ap_all {c : Nat → Int} {n t m q : Nat} (h : Lay c n t m q) : Ap (lstD c n t m q) := by
  have hh := h
  obtain ⟨l0, l1, l2, l3, l4, l5, l6, l7, l8, l9, l10, l11, l12, l13, l14, l15, l16, l17, l18, l19⟩ := hh
  have := mul_pos' t m
  unfold lstD lstC lstB
  refine ap_app (ap_app (ap_app ?_ ?_ ?_) ?_ ?_) ?_ ?_
  · refine ap_app ?_ (ap_flat ?_ ?_) ?_
    · simp; omega
    · intro i hi
      unfold rowA
      refine ap_app (ap_app ?_ ?_ ?_) (List.pairwise_singleton _ _) ?_
      · unfold rowA1; split <;> simp
      · unfold rowA2; split <;> simp
      · intro x hx y hy
        unfold rowA1 at hx; unfold rowA2 at hy
        split at hx <;> simp at hx
        split at hy <;> simp at hy
        omega
      · intro x hx y hy
        simp at hy
        rcases List.mem_append.1 hx with hx | hx
        · unfold rowA1 at hx; split at hx <;> simp at hx; omega
        · unfold rowA2 at hx; split at hx <;> simp at hx; omega
    · intro i j hij hj x hx y hy
      have := in_rowA hx; have := in_rowA hy; omega
    · intro x hx y hy
      simp at hx
      obtain ⟨k, hk, hy⟩ := List.mem_flatMap.1 hy
      have hk := List.mem_range.1 hk
      have := in_rowA hy; omega
  · refine ap_flat ?_ ?_
    · intro i hi
      unfold rowB
      refine ap_app ?_ (ap_flat ?_ ?_) ?_
      · simp; omega
      · intro k hk; simp [rowB2]; omega
      · intro k j hkj hj x hx y hy
        simp [rowB2] at hx hy; omega
      · intro x hx y hy
        simp at hx; have := in_rowB2 hy; omega
    · intro i j hij hj x hx y hy
      have := in_rowB hx; have := in_rowB hy; omega
  · intro x hx y hy
    have := in_lstA h hx; have := in_partB h hy; omega
  · refine ap_flat ?_ ?_
    · intro i hi
      unfold rowC
      refine ap_app ?_ (ap_flat ?_ ?_) ?_
      · unfold rowC1
        refine ap_app ?_ (ap_flat ?_ ?_) ?_
        · simp; omega
        · intro k hk; simp [rowC2]; omega
        · intro k j hkj hj x hx y hy
          simp [rowC2] at hx hy; omega
        · intro x hx y hy
          simp at hx; have := in_rowC2 hy; omega
      · intro k hk; simp [rowC3]
      · intro k j hkj hj x hx y hy
        simp [rowC3] at hx hy; omega
      · intro x hx y hy
        have := mul_pos' i m
        have := in_rowC1 hx; have := in_rowC3 hy; omega
    · intro i j hij hj x hx y hy
      have := mul_row (m := m) hij
      have := mul_pos' i m
      have := in_rowC hx; have := in_rowC hy; omega
  · intro x hx y hy
    have := in_partC h hy
    rcases List.mem_append.1 hx with hx | hx
    · have := in_lstA h hx; omega
    · have := in_partB h hx; omega
  · refine ap_flat ?_ ?_
    · intro i hi
      unfold rowD
      refine ap_app (List.pairwise_singleton _ _) (ap_flat ?_ ?_) ?_
      · intro k hk; simp [rowD2]
      · intro k j hkj hj x hx y hy
        simp [rowD2] at hx hy; omega
      · intro x hx y hy
        simp at hx
        obtain ⟨k, hk, hy⟩ := List.mem_flatMap.1 hy
        have hk := List.mem_range.1 hk
        simp [rowD2] at hy; omega
    · intro i j hij hj x hx y hy
      have := in_rowD hx; have := in_rowD hy; omega
  · intro x hx y hy
    have := in_partD h hy
    rcases List.mem_append.1 hx with hx | hx
    · rcases List.mem_append.1 hx with hx | hx
      · have := in_lstA h hx; omega
      · have := in_partB h hx; omega
    · have := in_partC h hx; omega

theorem lay_bs (n t q : Nat) (hq : (q : Int) = ndI n t) : Lay (bs n t) n t (2 * t + 2) q where
  l0 := rfl
  l1 := rfl
  l2 := rfl
  l3 := rfl
  l4 := rfl
  l5 := rfl
  l6 := rfl
  l7 := rfl
  l8 := rfl
  l9 := rfl
  l10 := rfl
  l11 := rfl
  l12 := rfl
  l13 := rfl
  l14 := rfl
  l15 := rfl
  l16 := rfl
  l17 := by push_cast; rfl
  l18 := by rw [hq]; rfl
  l19 := by rw [hq]; rfl
end Go.Proofs.Ytjdmchfneaebpaa
