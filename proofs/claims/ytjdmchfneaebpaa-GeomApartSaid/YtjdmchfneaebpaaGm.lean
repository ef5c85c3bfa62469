/- The words of a small geometry, by their numbers, and the list that grows. Condition: the numbers fit their kinds. -/
import Derived.Test.YtjdmchfneaebpaaGl
import Derived.Laws.AppendOwnNone
import Derived.Laws.OwnMore
namespace Go.Proofs.Ytjdmchfneaebpaa
open Go.RowKit
set_option linter.unusedVariables false

theorem Try.info3 : (Try.prog.info? 3).map (fun i => (i.zero, i.size, i.bytes)) = some (some (.int .i64 0), 1, 8) := by kernel_rfl
structure Sm (n t : Nat) : Prop where
  n0 : 1 ≤ n
  n1 : n ≤ 20
  t0 : 1 ≤ t
  t1 : t ≤ 8
theorem Sm.bd {n t : Nat} (H : Sm n t) (k : Nat) (hk : k < 20) : 0 ≤ bs n t k ∧ bs n t k ≤ 1000000 := by
  obtain ⟨a, b, c, d⟩ := H
  exact bs_bd n t (by omega) (by omega) (by omega) (by omega) k hk
theorem Sm.nd {n t : Nat} (H : Sm n t) : 0 ≤ ndI n t ∧ ndI n t ≤ 824 := by
  obtain ⟨n0, n1, t0, t1⟩ := H
  have h1 : (t : Int) * 4 * (n + 1) ≤ 32 * 21 := Int.mul_le_mul (by omega) (by omega) (by omega) (by omega)
  have h2 : (t : Int) * (2 * t + 3) ≤ 8 * 19 := Int.mul_le_mul (by omega) (by omega) (by omega) (by omega)
  have h3 : 0 ≤ (t : Int) * 4 * (n + 1) := Int.mul_nonneg (by omega) (by omega)
  have h4 : 0 ≤ (t : Int) * (2 * t + 3) := Int.mul_nonneg (by omega) (by omega)
  unfold ndI; omega

theorem s_lock {n t : Nat} (H : Sm n t) (w : World) : Calls Try.prog 27 #[.agg (gb n t (bs n t))] w fun e w' => e = .returned (.int .i64 (bs n t 0)) ∧ Below w.heap.size w w' := by
  have hh := lock_any n t (bs n t) w (H.bd 0 (by omega)).1 (H.bd 0 (by omega)).2 (H.bd 1 (by omega)).1 (H.bd 1 (by omega)).2
  have d : bs n t 1 = bs n t 0 + 1 := rfl
  rw [atv_at _ _ _ (by omega) (by omega), Int.add_zero] at hh; exact hh
theorem s_epoch {n t : Nat} (H : Sm n t) (w : World) : Calls Try.prog 28 #[.agg (gb n t (bs n t))] w fun e w' => e = .returned (.int .i64 (bs n t 1)) ∧ Below w.heap.size w w' := by
  have hh := epoch_any n t (bs n t) w (H.bd 1 (by omega)).1 (H.bd 1 (by omega)).2 (H.bd 2 (by omega)).1 (H.bd 2 (by omega)).2
  have d : bs n t 2 = bs n t 1 + 1 := rfl
  rw [atv_at _ _ _ (by omega) (by omega), Int.add_zero] at hh; exact hh
theorem s_pool {n t : Nat} (H : Sm n t) (w : World) : Calls Try.prog 29 #[.agg (gb n t (bs n t))] w fun e w' => e = .returned (.int .i64 (bs n t 4)) ∧ Below w.heap.size w w' := by
  have hh := pool_any n t (bs n t) w (H.bd 4 (by omega)).1 (H.bd 4 (by omega)).2 (H.bd 5 (by omega)).1 (H.bd 5 (by omega)).2
  have d : bs n t 5 = bs n t 4 + 1 := rfl
  rw [atv_at _ _ _ (by omega) (by omega), Int.add_zero] at hh; exact hh
theorem s_count {n t : Nat} (H : Sm n t) (k : Nat) (hk : k < 5) (w : World) : Calls Try.prog 18 #[.agg (gb n t (bs n t)), .int .i64 k] w fun e w' => e = .returned (.int .i64 (bs n t 2 + k)) ∧ Below w.heap.size w w' := by
  have hh := count_any n t k (bs n t) w (H.bd 2 (by omega)).1 (H.bd 2 (by omega)).2 (H.bd 3 (by omega)).1 (H.bd 3 (by omega)).2
  have d : bs n t 3 = bs n t 2 + 5 := rfl
  rw [atv_at _ _ _ (by omega) (by omega)] at hh; exact hh
theorem s_bin {n t : Nat} (H : Sm n t) (k : Nat) (hk : k < 9) (w : World) : Calls Try.prog 19 #[.agg (gb n t (bs n t)), .int .i64 k] w fun e w' => e = .returned (.int .i64 (bs n t 3 + k)) ∧ Below w.heap.size w w' := by
  have hh := bin_any n t k (bs n t) w (H.bd 3 (by omega)).1 (H.bd 3 (by omega)).2 (H.bd 4 (by omega)).1 (H.bd 4 (by omega)).2
  have d : bs n t 4 = bs n t 3 + 9 := rfl
  rw [atv_at _ _ _ (by omega) (by omega)] at hh; exact hh
theorem s_adds {n t : Nat} (H : Sm n t) (k : Nat) (hk : k < 4) (w : World) : Calls Try.prog 20 #[.agg (gb n t (bs n t)), .int .i64 k] w fun e w' => e = .returned (.int .i64 (bs n t 5 + k)) ∧ Below w.heap.size w w' := by
  have hh := adds_any n t k (bs n t) w (H.bd 5 (by omega)).1 (H.bd 5 (by omega)).2 (H.bd 6 (by omega)).1 (H.bd 6 (by omega)).2
  have d : bs n t 6 = bs n t 5 + 4 := rfl
  rw [atv_at _ _ _ (by omega) (by omega)] at hh; exact hh
theorem s_serial {n t : Nat} (H : Sm n t) (k : Nat) (hk : k < t) (w : World) : Calls Try.prog 15 #[.agg (gb n t (bs n t)), .int .i64 k] w fun e w' => e = .returned (.int .i64 (bs n t 6 + k)) ∧ Below w.heap.size w w' := by
  have hh := serial_any n t k (bs n t) w (H.bd 6 (by omega)).1 (H.bd 6 (by omega)).2 (H.bd 7 (by omega)).1 (H.bd 7 (by omega)).2
  have d : bs n t 7 = bs n t 6 + t := rfl
  rw [atv_at _ _ _ (by omega) (by omega)] at hh; exact hh
theorem s_page {n t : Nat} (H : Sm n t) (k : Nat) (hk : k < n) (w : World) : Calls Try.prog 21 #[.agg (gb n t (bs n t)), .int .i64 k] w fun e w' => e = .returned (.int .i64 (bs n t 7 + k)) ∧ Below w.heap.size w w' := by
  have hh := page_any n t k (bs n t) w (H.bd 7 (by omega)).1 (H.bd 7 (by omega)).2 (H.bd 8 (by omega)).1 (H.bd 8 (by omega)).2
  have d : bs n t 8 = bs n t 7 + n := rfl
  rw [atv_at _ _ _ (by omega) (by omega)] at hh; exact hh
theorem s_bits {n t : Nat} (H : Sm n t) (k : Nat) (hk : k < n) (w : World) : Calls Try.prog 22 #[.agg (gb n t (bs n t)), .int .i64 k] w fun e w' => e = .returned (.int .i64 (bs n t 8 + k)) ∧ Below w.heap.size w w' := by
  have hh := bits_any n t k (bs n t) w (H.bd 8 (by omega)).1 (H.bd 8 (by omega)).2 (H.bd 9 (by omega)).1 (H.bd 9 (by omega)).2
  have d : bs n t 9 = bs n t 8 + n := rfl
  rw [atv_at _ _ _ (by omega) (by omega)] at hh; exact hh
theorem s_remote {n t : Nat} (H : Sm n t) (k : Nat) (hk : k < n) (w : World) : Calls Try.prog 23 #[.agg (gb n t (bs n t)), .int .i64 k] w fun e w' => e = .returned (.int .i64 (bs n t 9 + k)) ∧ Below w.heap.size w w' := by
  have hh := remote_any n t k (bs n t) w (H.bd 9 (by omega)).1 (H.bd 9 (by omega)).2 (H.bd 10 (by omega)).1 (H.bd 10 (by omega)).2
  have d : bs n t 10 = bs n t 9 + n := rfl
  rw [atv_at _ _ _ (by omega) (by omega)] at hh; exact hh
theorem s_gone {n t : Nat} (H : Sm n t) (k : Nat) (hk : k < t) (w : World) : Calls Try.prog 14 #[.agg (gb n t (bs n t)), .int .i64 k] w fun e w' => e = .returned (.int .i64 (bs n t 15 + k)) ∧ Below w.heap.size w w' := by
  have hh := gone_any n t k (bs n t) w (H.bd 15 (by omega)).1 (H.bd 15 (by omega)).2 (H.bd 16 (by omega)).1 (H.bd 16 (by omega)).2
  have d : bs n t 16 = bs n t 15 + t := rfl
  rw [atv_at _ _ _ (by omega) (by omega)] at hh; exact hh
theorem s_link {n t : Nat} (H : Sm n t) (i k : Nat) (hi : i < n) (hk : k < 8) (w : World) : Calls Try.prog 24 #[.agg (gb n t (bs n t)), .int .i64 (8 * (i : Int) + k)] w fun e w' => e = .returned (.int .i64 (bs n t 10 + (8 * i + k))) ∧ Below w.heap.size w w' := by
  have hh := link_any n t (8 * (i : Int) + k) (bs n t) w (H.bd 10 (by omega)).1 (H.bd 10 (by omega)).2 (H.bd 11 (by omega)).1 (H.bd 11 (by omega)).2
  have d : bs n t 11 = bs n t 10 + n * 8 := rfl
  rw [atv_at _ _ _ (by omega) (by omega)] at hh; exact hh
theorem s_state {n t : Nat} (H : Sm n t) (i k : Nat) (hi : i < n) (hk : k < 8) (w : World) : Calls Try.prog 25 #[.agg (gb n t (bs n t)), .int .i64 (8 * (i : Int) + k)] w fun e w' => e = .returned (.int .i64 (bs n t 11 + (8 * i + k))) ∧ Below w.heap.size w w' := by
  have hh := state_any n t (8 * (i : Int) + k) (bs n t) w (H.bd 11 (by omega)).1 (H.bd 11 (by omega)).2 (H.bd 12 (by omega)).1 (H.bd 12 (by omega)).2
  have d : bs n t 12 = bs n t 11 + n * 8 := rfl
  rw [atv_at _ _ _ (by omega) (by omega)] at hh; exact hh
theorem s_hazard0 {n t : Nat} (H : Sm n t) (i : Nat) (hi : i < t) (w : World) : Calls Try.prog 12 #[.agg (gb n t (bs n t)), .int .i64 i, .int .i64 0] w fun e w' => e = .returned (.int .i64 (bs n t 14 + (i * 2 + 0))) ∧ Below w.heap.size w w' := by
  have hh := hazard_any n t i 0 (bs n t) w (H.bd 14 (by omega)).1 (H.bd 14 (by omega)).2 (H.bd 15 (by omega)).1 (H.bd 15 (by omega)).2
  have d : bs n t 15 = bs n t 14 + t * 2 := rfl
  have := H.t1
  rw [inv_at _ _ _ (by omega) (by omega) (by omega) (by omega), atv_at _ _ _ (by omega) (by omega)] at hh; exact hh
theorem s_cache0 {n t : Nat} (H : Sm n t) (i k : Nat) (hi : i < t) (hk : k < 4) (w : World) : Calls Try.prog 10 #[.agg (gb n t (bs n t)), .int .i64 i, .int .i64 k, .int .i64 0] w fun e w' => e = .returned (.int .i64 (bs n t 12 + ((i * 4 + k) * 2 + 0))) ∧ Below w.heap.size w w' := by
  have hh := cache_any n t i k 0 (bs n t) w (H.bd 12 (by omega)).1 (H.bd 12 (by omega)).2 (H.bd 13 (by omega)).1 (H.bd 13 (by omega)).2
  have d : bs n t 13 = bs n t 12 + t * 4 * 2 := rfl
  have := H.t1
  rw [inv_at i k 4 (by omega) (by omega) (by omega) (by omega), inv_at _ 0 2 (by omega) (by omega) (by omega) (by omega), atv_at _ _ _ (by omega) (by omega)] at hh; exact hh
theorem s_hazard1 {n t : Nat} (H : Sm n t) (i : Nat) (hi : i < t) (w : World) : Calls Try.prog 12 #[.agg (gb n t (bs n t)), .int .i64 i, .int .i64 1] w fun e w' => e = .returned (.int .i64 (bs n t 14 + (i * 2 + 1))) ∧ Below w.heap.size w w' := by
  have hh := hazard_any n t i 1 (bs n t) w (H.bd 14 (by omega)).1 (H.bd 14 (by omega)).2 (H.bd 15 (by omega)).1 (H.bd 15 (by omega)).2
  have d : bs n t 15 = bs n t 14 + t * 2 := rfl
  have := H.t1
  rw [inv_at _ _ _ (by omega) (by omega) (by omega) (by omega), atv_at _ _ _ (by omega) (by omega)] at hh; exact hh
theorem s_cache1 {n t : Nat} (H : Sm n t) (i k : Nat) (hi : i < t) (hk : k < 4) (w : World) : Calls Try.prog 10 #[.agg (gb n t (bs n t)), .int .i64 i, .int .i64 k, .int .i64 1] w fun e w' => e = .returned (.int .i64 (bs n t 12 + ((i * 4 + k) * 2 + 1))) ∧ Below w.heap.size w w' := by
  have hh := cache_any n t i k 1 (bs n t) w (H.bd 12 (by omega)).1 (H.bd 12 (by omega)).2 (H.bd 13 (by omega)).1 (H.bd 13 (by omega)).2
  have d : bs n t 13 = bs n t 12 + t * 4 * 2 := rfl
  have := H.t1
  rw [inv_at i k 4 (by omega) (by omega) (by omega) (by omega), inv_at _ 1 2 (by omega) (by omega) (by omega) (by omega), atv_at _ _ _ (by omega) (by omega)] at hh; exact hh
theorem s_head {n t : Nat} (H : Sm n t) (i k : Nat) (hi : i < t) (hk : k < 4) (w : World) : Calls Try.prog 11 #[.agg (gb n t (bs n t)), .int .i64 i, .int .i64 k] w fun e w' => e = .returned (.int .i64 (bs n t 13 + (i * 4 + k))) ∧ Below w.heap.size w w' := by
  have hh := head_any n t i k (bs n t) w (H.bd 13 (by omega)).1 (H.bd 13 (by omega)).2 (H.bd 14 (by omega)).1 (H.bd 14 (by omega)).2
  have d : bs n t 14 = bs n t 13 + t * 4 := rfl
  have := H.t1
  rw [inv_at _ _ _ (by omega) (by omega) (by omega) (by omega), atv_at _ _ _ (by omega) (by omega)] at hh; exact hh
theorem s_retired {n t : Nat} (H : Sm n t) (i k : Nat) (hi : i < t) (hk : k < 2 * t + 2) (w : World) : Calls Try.prog 13 #[.agg (gb n t (bs n t)), .int .i64 i, .int .i64 k] w fun e w' => e = .returned (.int .i64 (bs n t 16 + (i * ((2 * t + 2 : Nat) : Int) + k))) ∧ Below w.heap.size w w' := by
  have h1 := H.t1
  have hh := retired_any n t i k (bs n t) w (by omega) (by omega) (H.bd 16 (by omega)).1 (H.bd 16 (by omega)).2 (H.bd 17 (by omega)).1 (H.bd 17 (by omega)).2
  have d : bs n t 17 = bs n t 16 + t * (2 * t + 2) := rfl
  have e : ((2 * t + 2 : Nat) : Int) = 2 * (t : Int) + 2 := by omega
  have p := mul_row (m := 2 * t + 2) hi
  have p0 := mul_pos' i (2 * t + 2)
  rw [e] at p p0 ⊢
  rw [inv_at _ _ _ (by omega) (by omega) (by omega) (by omega), atv_at _ _ _ (by omega) (by omega)] at hh; exact hh
theorem s_next {n t : Nat} (H : Sm n t) (i : Nat) (hi : (i : Int) < ndI n t) (w : World) : Calls Try.prog 17 #[.agg (gb n t (bs n t)), .int .i64 ((i : Int) + 1)] w fun e w' => e = .returned (.int .i64 (bs n t 17 + i)) ∧ Below w.heap.size w w' := by
  have hn := H.nd
  have hh := next_any n t ((i : Int) + 1) (bs n t) w (by omega) (by omega) (H.bd 17 (by omega)).1 (H.bd 17 (by omega)).2 (H.bd 18 (by omega)).1 (H.bd 18 (by omega)).2
  have d : bs n t 18 = bs n t 17 + ndI n t := rfl
  rw [show ((i : Int) + 1 - 1) = i by omega, inv_at _ _ _ (by omega) (by omega) (by omega) (by omega), atv_at _ _ _ (by omega) (by omega), Int.mul_one, Int.add_zero] at hh; exact hh
theorem s_item {n t : Nat} (H : Sm n t) (i k : Nat) (hi : (i : Int) < ndI n t) (hk : k < 8) (w : World) : Calls Try.prog 16 #[.agg (gb n t (bs n t)), .int .i64 ((i : Int) + 1), .int .i64 k] w fun e w' => e = .returned (.int .i64 (bs n t 18 + (i * 8 + k))) ∧ Below w.heap.size w w' := by
  have hn := H.nd
  have hh := item_any n t ((i : Int) + 1) k (bs n t) w (by omega) (by omega) (H.bd 18 (by omega)).1 (H.bd 18 (by omega)).2 (H.bd 19 (by omega)).1 (H.bd 19 (by omega)).2
  have d : bs n t 19 = bs n t 18 + ndI n t * 8 := rfl
  rw [show ((i : Int) + 1 - 1) = i by omega, inv_at _ _ _ (by omega) (by omega) (by omega) (by omega), atv_at _ _ _ (by omega) (by omega)] at hh; exact hh
theorem s_nodes {n t : Nat} (H : Sm n t) (w : World) : Calls Try.prog 9 #[.agg (gb n t (bs n t))] w fun e w' => e = .returned (.int .i64 (ndI n t)) ∧ Below w.heap.size w w' := by
  obtain ⟨n0, n1, t0, t1⟩ := H
  exact nodes_any n t (bs n t) w (by omega) (by omega) (by omega) (by omega)

/-- the list so far, and the geometry -/
structure Out (w : World) (n t : Nat) (xs : List Int) (v : Value) (w' : World) : Prop where
  own : w'.ownsRow (w.heap.size + 1) 3 1 v xs.length (xs.map (Value.int .i64))
  geo : At w' w.heap.size (gb n t (bs n t)) 25
  bel : Below w.heap.size w w'
theorem own_below {w w' : World} {base e size n : Nat} {v : Value} {xs : List Value} (h : w.ownsRow base e size v n xs) (hb : Below w.heap.size w w') : w'.ownsRow base e size v n xs := by
  obtain ⟨hl, h⟩ := h
  refine ⟨hl, ?_⟩
  rcases h with h | ⟨g, cap, cur, hv, hg, hh, r⟩
  · exact .inl h
  · exact .inr ⟨g, cap, cur, hv, hg, (hb.block g (Array.getElem?_eq_some_iff.1 hh).1).trans hh, r⟩
theorem Out.below {w W V : World} {n t : Nat} {xs : List Int} {v : Value} (h : Out w n t xs v W) (hb : Below W.heap.size W V) : Out w n t xs v V :=
  ⟨own_below h.own hb, h.geo.below hb, bnext h.bel hb⟩
theorem Out.al {w W : World} {n t : Nat} {xs : List Int} {v : Value} (h : Out w n t xs v W) (o : Obj) : Out w n t xs v (W.alloc o) := h.below ((Below.refl _ W).alloc (Nat.le_refl _) o)
theorem Out.shape {w W : World} {n t : Nat} {xs : List Int} {v : Value} (h : Out w n t xs v W) : ∃ ao c, v = .slice ao xs.length c := by
  rcases h.own.2 with ⟨rfl, h0⟩ | ⟨g, cap, cur, rfl, _⟩
  · rw [h0]; exact ⟨_, _, rfl⟩
  · exact ⟨_, _, rfl⟩
theorem Out.row {w W : World} {n t : Nat} {xs : List Int} {v : Value} (h : Out w n t xs v W) : ∀ k, v.ownBlock = some k → w.heap.size + 1 ≤ k := by
  intro j hj
  rcases h.own.2 with ⟨rfl, _⟩ | ⟨g, cap, cur, rfl, hg', _⟩
  · simp [Value.ownBlock] at hj
  · simp [Value.ownBlock] at hj; omega
/-- an append's arm: the cells that were built last are laid behind the list -/
theorem arm_out {w W : World} {n t : Nat} {xs : List Int} {v : Value} (O : Out w n t xs v W) (ys : List Int) (hlen : xs.length + ys.length ≤ 20000)
    {ops : Array Oper} {rest : List Oper} {o : Oper} {a : Act} {Q : Exit → Act → World → Prop} (hgd : o.guard = none) (s x : Operand) (ho : o.op = .call { callee := .builtin .append, args := #[s, x], argTypes := #[34, 34] })
    (hs : a.eval s = v) (hx : a.eval x = .slice (some ⟨W.heap.size, 0, none⟩) ys.length ys.length)
    (h : ∀ v' w', Out w n t (xs ++ ys) v' w' → wpList Try.prog ops Q rest (a.put o.dst v') w') : wpList Try.prog ops Q (o :: rest) a (W.alloc (.cells (ys.map (Value.int .i64)).toArray 3)) := by
  obtain ⟨j0, ji, jz0, jz1, jz2⟩ := info_parts Try.info3
  have O1 := O.al (.cells (ys.map (Value.int .i64)).toArray 3)
  have hA := heap_alloc_new W (.cells (ys.map (Value.int .i64)).toArray 3)
  have hs1 := O1.bel.size
  have hgs : w.heap.size + 1 ≤ (W.alloc (.cells (ys.map (Value.int .i64)).toArray 3)).heap.size := O1.geo.lt
  refine wpList_append_own _ hgd s x 34 ho (w.heap.size + 1) 3 j0 (.int .i64 0) 1 8 Try.underlying34 ji jz0 jz1 jz2 rfl (by decide) v xs.length _ hs O1.own ⟨W.heap.size, 0, none⟩ ys.length ys.length (ys.map (Value.int .i64)) hx (by simp) ?_ ?_ (by unfold maxLen; omega) (by omega) hgs ?_
  · intro j u hu
    rw [Addr.add_lit, Nat.zero_add, cell_of_row _ W.heap.size j _ 3 (0, 0) hA]
    rw [← hu]; simp
  · intro u hu
    obtain ⟨z, _, rfl⟩ := List.mem_map.1 hu
    rfl
  · intro v' w1 h1 h2 _
    refine h v' w1 ⟨?_, ?_, ?_⟩
    · rw [List.length_append, List.map_append]; exact h1
    · have hne : ¬ (some w.heap.size = v.ownBlock) := fun e => by have := O.row _ e.symm; omega
      exact (h2.block w.heap.size O1.geo.lt hne).trans O1.geo
    · exact O1.bel.grown h2 (by omega) (fun k hk => by have := O.row k hk; omega)

theorem le_flat {α β : Type} (f : α → List β) (k : Nat) : ∀ l : List α, (∀ x ∈ l, (f x).length ≤ k) → (l.flatMap f).length ≤ l.length * k := by
  intro l
  induction l with
  | nil => intro _; simp
  | cons x l ih =>
    intro h
    have h1 := h x (by simp)
    have h2 := ih (fun y hy => h y (by simp [hy]))
    rw [List.flatMap_cons, List.length_append, List.length_cons, Nat.add_mul]
    omega
theorem le_rowA (c : Nat → Int) (i : Nat) : (rowA1 c i).length ≤ 1 ∧ (rowA2 c i).length ≤ 1 ∧ (rowA c i).length ≤ 3 := by
  have h1 : (rowA1 c i).length ≤ 1 := by unfold rowA1; split <;> simp
  have h2 : (rowA2 c i).length ≤ 1 := by unfold rowA2; split <;> simp
  refine ⟨h1, h2, ?_⟩
  unfold rowA; simp; omega
theorem le_lstA (c : Nat → Int) (i : Nat) : (lstA c i).length ≤ 3 + i * 3 := by
  have := le_flat (rowA c) 3 (List.range i) (fun x _ => (le_rowA c x).2.2)
  unfold lstA; rw [List.length_append]; simp at this ⊢; omega
theorem le_lstB (c : Nat → Int) (i : Nat) : (lstB c i).length = 21 + i * 19 := by
  unfold lstB; rw [List.length_append, len_lstA, len_flat _ 19 _ (fun i _ => len_rowB c i), List.length_range]
theorem le_lstC (c : Nat → Int) (n m i : Nat) (hm : m ≤ 18) : (lstC c n m i).length ≤ 21 + n * 19 + i * 34 := by
  have := le_flat (rowC c m) 34 (List.range i) (fun x _ => by rw [len_rowC]; omega)
  rw [List.length_range] at this
  unfold lstC; rw [List.length_append, le_lstB]; omega
theorem le_lstD (c : Nat → Int) (n t m i : Nat) (hm : m ≤ 18) : (lstD c n t m i).length ≤ 21 + n * 19 + t * 34 + i * 9 := by
  have h1 := le_lstC c n m t hm
  have := len_flat (rowD c) 9 (List.range i) (fun x _ => len_rowD c x)
  rw [List.length_range] at this
  unfold lstD; rw [List.length_append]; omega
theorem flat_up {β : Type} (f : Nat → List β) (k : Nat) : (List.range (k + 1)).flatMap f = (List.range k).flatMap f ++ f k := by
  rw [List.range_succ, List.flatMap_append]; simp
end Go.Proofs.Ytjdmchfneaebpaa
