/- Class.Table gives the four classes. No condition. -/
import Derived.Test.YtjbcffcjepkbgaaMk
import Derived.Laws.CopyOwn
namespace Go.Proofs.Ytjbcffcjepkbgaa
open Go.RowKit

def tabV : List Value := [.int .i64 8, .int .i64 8, .int .i64 8, .int .i64 16, .int .i64 16, .int .i64 4, .int .i64 24, .int .i64 8, .int .i64 2, .int .i64 32, .int .i64 32, .int .i64 2]
theorem C_tab : C [8, 16, 24, 32] = tabV := by kernel_rfl
theorem G_tab : G [8, 16, 24, 32] = [8, 16, 24, 32] := by kernel_rfl
theorem tab_one : (tabV.toArray.all fun x => x.oneCell') = true := by kernel_rfl
/-- an owned row of n elements, n not 0: its address and its cells. -/
theorem own_open {w : World} {base e size n : Nat} {v : Value} {xs : List Value} (h : w.ownsRow base e size v n xs) (hn : 0 < n) :
    ∃ g cap, v = .slice (some ⟨g, 0, none⟩) n cap ∧ base ≤ g ∧ g < w.heap.size ∧ n ≤ cap ∧ cap ≤ maxLen ∧ ∀ j, j < n * size → w.cell? ⟨g, j, none⟩ = xs[j]? := by
  obtain ⟨hl, h⟩ := h
  rcases h with ⟨_, h0⟩ | ⟨g, cap, cur, hv, hg, hh, hc, hm, hs, ht⟩
  · omega
  · refine ⟨g, cap, hv, hg, ?_, hc, hm, fun j hj => ?_⟩
    · exact (Array.getElem?_eq_some_iff.1 hh).1
    · rw [cell_of_row w g j cur e (0, 0) hh, ← ht, List.getElem?_take_of_lt hj, Array.getElem?_toList]

set_option maxHeartbeats 1000000 in
theorem table_any (w : World) : Calls Try.prog 8 #[] w fun e w' => e = .returned (.agg tabV.toArray) ∧ Below w.heap.size w w' := by
  go_enter Try.func8, Try.ntmps8
  go_wp2_with fail
  refine (make_any (w.heap.size + 1) 0 4 4 [8, 16, 24, 32] _ rfl (by omega) (by simp) ?_).mono ?_
  · intro i hi
    match i, hi with
    | 0, _ => simp
    | 1, _ => simp
    | 2, _ => simp
    | 3, _ => simp
  · rintro e w1 ⟨v, rfl, hown, hb⟩
    rw [G_tab, C_tab] at hown
    obtain ⟨g, cap, rfl, hg, hg', hcap, hcm, hcell⟩ := own_open hown (by decide)
    simp at hg
    have c0 := hcell 0 (by decide)
    have c1 := hcell 1 (by decide)
    have c2 := hcell 2 (by decide)
    have c3 := hcell 3 (by decide)
    have c4 := hcell 4 (by decide)
    have c5 := hcell 5 (by decide)
    have c6 := hcell 6 (by decide)
    have c7 := hcell 7 (by decide)
    have c8 := hcell 8 (by decide)
    have c9 := hcell 9 (by decide)
    have c10 := hcell 10 (by decide)
    have c11 := hcell 11 (by decide)
    simp [tabV] at c0 c1 c2 c3 c4 c5 c6 c7 c8 c9 c10 c11
    clear hcell
    have hA : ∀ (a : Option Addr) (c : Nat) (w : World), (Instr.arrayAt 24 (.slice a 4 c)).run Try.prog w = .ok (.pointer a) w := fun a c w => by kernel_rfl
    have hz := hb.size
    simp at hz
    have hrow : w1.heap[w.heap.size]? = some (.cells (Array.replicate 12 (.int .i64 0)) 24 (0, 0)) := by
      rw [hb.block _ (by simp; omega)]
      exact heap_alloc2_old _ _ _
    have hB : Below w.heap.size w w1 := (((Below.refl _ w).alloc (Nat.le_refl _) _).alloc (by simp) _).trans (hb.mono (by simp; omega))
    clear hown hb
    go_wp2_with (refine wpList_store_row rfl 24 (.tmp 0) (.tmp 4) rfl w.heap.size tabV.toArray rfl rfl 24 _ hrow (by kernel_rfl) rfl tab_one ?_)
    refine bodyPost_ret (results_cell_row (p := 0) (ty := 24) rfl _ _ w.heap.size 24 tabV.toArray (0, 0) _ rfl (setRow_heap _ _ _ _ _ _ hrow) Try.underlying24 rfl (by kernel_rfl)) rfl ?_
    exact ⟨rfl, below_setRow hB (Nat.le_refl _) _⟩
end Go.Proofs.Ytjbcffcjepkbgaa
