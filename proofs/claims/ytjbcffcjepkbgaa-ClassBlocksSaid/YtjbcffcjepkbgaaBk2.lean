/- The law ClassBlocks answers true for the class 2. Condition: the numbers fit their kinds. -/
import Derived.Test.YtjbcffcjepkbgaaBk
namespace Go.Proofs.Ytjbcffcjepkbgaa
open Go.RowKit

theorem bo_mul_2 (n : Int) (h0 : 0 ≤ n) (h1 : n < 2) : bo 2 (n * 24) = true ∧ bk 2 (n * 24) = n := by
  have hb : bo 2 (n * 24) = true := by simp [bo, szI, blI]; omega
  exact ⟨hb, by simp [bk, hb, szI]⟩
theorem bo_off_2 (f : Int) (h0 : 0 ≤ f) : bo 2 f = (f % 24 == 0 && decide (f / 24 < 2)) := by
  simp [bo, szI, blI, h0]
theorem bk_off_2 (f : Int) (h : bo 2 f = true) : bk 2 f * 24 = f := by
  have h' := h
  simp [bo, szI, blI] at h'
  simp [bk, h, szI]; omega
set_option maxHeartbeats 1000000 in
theorem blocks_2 (c b f s : Int) (w : World) (hc : c % 4 = 2) (hc0 : 0 ≤ c) (hc1 : c ≤ 255) (hb0 : 0 ≤ b) (hb1 : b ≤ 255) (hf0 : 0 ≤ f) (hf1 : f ≤ 255) (hs0 : 0 ≤ s) (hs1 : s ≤ 18446744073709551615) :
    Calls Try.prog 6 #[.int .u8 c, .int .u8 b, .int .u8 f, .int .u64 s] w fun e w' => e = .returned (.bool true) ∧ Below w.heap.size w w' := by
  have hn : ∃ n, b % 2 = n ∧ 0 ≤ n ∧ n < 2 := ⟨_, rfl, by omega, by omega⟩
  obtain ⟨n, hn, hn0, hn1⟩ := hn
  have ht : ∃ t, s % 1099511627776 = t ∧ 0 ≤ t ∧ t < 1099511627776 := ⟨_, rfl, by omega, by omega⟩
  obtain ⟨t, ht, ht0, ht1⟩ := ht
  obtain ⟨m1, m2⟩ := bo_mul_2 n hn0 hn1
  have P := pg_facts (t + 1) (by omega) (by omega)
  have Ho := Lib.hid (bo_off_2 f hf0)
  have Hx := Lib.hid (bk_off_2 f)
  generalize hp : pgI (t + 1) = p at P
  obtain ⟨p1, p2, p3, p4⟩ := P
  go_enter Try.func6, Try.ntmps6
  go_wp2_with fail
  refine (table_lt _).mono ?_
  rintro e w1 ⟨rfl, b1⟩
  have hz1 : (w1.alloc (.cells #[.int .i64 8, .int .i64 8, .int .i64 8, .int .i64 16, .int .i64 16, .int .i64 4, .int .i64 24, .int .i64 8, .int .i64 2, .int .i64 32, .int .i64 32, .int .i64 2] 24)).heap.size = w1.heap.size + 1 := by simp
  have q0 : (w1.alloc (.cells #[.int .i64 8, .int .i64 8, .int .i64 8, .int .i64 16, .int .i64 16, .int .i64 4, .int .i64 24, .int .i64 8, .int .i64 2, .int .i64 32, .int .i64 32, .int .i64 2] 24)).cell? ⟨w1.heap.size, 6, none⟩ = some (.int .i64 24) := (cell_of_row _ _ _ _ _ (0, 0) (heap_alloc_new w1 _)).trans rfl
  have q2 : (w1.alloc (.cells #[.int .i64 8, .int .i64 8, .int .i64 8, .int .i64 16, .int .i64 16, .int .i64 4, .int .i64 24, .int .i64 8, .int .i64 2, .int .i64 32, .int .i64 32, .int .i64 2] 24)).cell? ⟨w1.heap.size, 8, none⟩ = some (.int .i64 2) := (cell_of_row _ _ _ _ _ (0, 0) (heap_alloc_new w1 _)).trans rfl
  have bb := b1.alloc b1.size (.cells #[.int .i64 8, .int .i64 8, .int .i64 8, .int .i64 16, .int .i64 16, .int .i64 4, .int .i64 24, .int .i64 8, .int .i64 2, .int .i64 32, .int .i64 32, .int .i64 2] 24)
  go_wp2_with fail
  refine (block_any _ _ _ (by omega)).mono ?_
  rintro e w2 ⟨rfl, b2⟩
  go_wp2_with fail
  refine (block_any _ _ _ (by omega)).mono ?_
  rintro e w3 ⟨rfl, b3⟩
  have b23 := bnext b2 b3
  have r0 := (b23.cell (p := ⟨w1.heap.size, 6, none⟩) (by rw [hz1]; exact Nat.lt_succ_self _)).trans q0
  have r2 := (b23.cell (p := ⟨w1.heap.size, 8, none⟩) (by rw [hz1]; exact Nat.lt_succ_self _)).trans q2
  have hB := bnext bb b23
  clear q0 q2 b2 b3 b23 bb b1 hz1
  generalize w1.heap.size = B at *
  clear w1
  go_wp2_with fail
  refine (pages_any _ _ (by omega) (by omega)).mono ?_
  rintro e w4 ⟨rfl, rfl⟩
  have hp64 : 0 ≤ p * 64 := by omega
  have hp65 : p * 64 ≤ 1099511627840 := by omega
  go_wp2_with fail
  by_cases t1 : f % 24 = 0
  · have e0 : f.tmod 24 = 0 := by rw [Int.tmod_eq_emod_of_nonneg hf0]; exact t1
    have e1 : IntKind.i64.wrap (f.tdiv 24) = f / 24 := by rw [Int.tdiv_eq_ediv_of_nonneg hf0]; exact IntWalk.i64_in _ (by omega)
    by_cases t2 : f / 24 < 2
    · have ho : bo 2 f = true := by rw [Ho.out]; simp [t1, t2]
      have hx := Hx.out ho
      generalize bk 2 f = x at *
      have e2 : decide (f / 24 < 2) = true := by simpa using t2
      have e3 : IntKind.i64.wrap (x * 24) = f := by rw [hx]; exact IntWalk.i64_in _ (by omega)
      have e4 : IntKind.i64.wrap (p * 64) = p * 64 := IntWalk.i64_in _ (by omega)
      have e5 : decide (t + 1 ≤ p * 64) = true := by simpa using p3
      have e6 : IntKind.i64.wrap (p - 1) = p - 1 := IntWalk.i64_in _ (by omega)
      have e7 : IntKind.i64.wrap ((p - 1) * 64) = (p - 1) * 64 := IntWalk.i64_in _ (by omega)
      have e8 : decide ((p - 1) * 64 < t + 1) = true := by simpa using p4
      have e9 : IntKind.i64.wrap f = f := IntWalk.i64_in _ (by omega)
      refine region_quiet_tail 61 (by kernel_rfl) (by kernel_rfl) ?_
      simp only [List.take_succ_cons, List.take_zero, List.drop_succ_cons, List.drop_zero]
      repeat (go_big_quiet_step (fail))
      refine wpQuiet_nil ?_
      have hB5 := hB.drew
      generalize w3.drew = w5 at *
      clear r0 r2
      go_wp2_with fail
      refine (awake_any _).mono ?_
      rintro e w6 ⟨rfl, b6⟩
      go_wp2_with fail
      go_ret
      exact ⟨rfl, bnext hB5 b6⟩
    · have ho : bo 2 f = false := by rw [Ho.out]; simp [t1, t2]
      generalize bk 2 f = x at *
      have e2 : decide (f / 24 < 2) = false := by simpa using t2
      have e4 : IntKind.i64.wrap (p * 64) = p * 64 := IntWalk.i64_in _ (by omega)
      have e5 : decide (t + 1 ≤ p * 64) = true := by simpa using p3
      have e6 : IntKind.i64.wrap (p - 1) = p - 1 := IntWalk.i64_in _ (by omega)
      have e7 : IntKind.i64.wrap ((p - 1) * 64) = (p - 1) * 64 := IntWalk.i64_in _ (by omega)
      have e8 : decide ((p - 1) * 64 < t + 1) = true := by simpa using p4
      have e9 : IntKind.i64.wrap f = f := IntWalk.i64_in _ (by omega)
      refine region_quiet_tail 61 (by kernel_rfl) (by kernel_rfl) ?_
      simp only [List.take_succ_cons, List.take_zero, List.drop_succ_cons, List.drop_zero]
      repeat (go_big_quiet_step (fail))
      refine wpQuiet_nil ?_
      have hB5 := hB.drew
      generalize w3.drew = w5 at *
      clear r0 r2
      go_wp2_with fail
      refine (awake_any _).mono ?_
      rintro e w6 ⟨rfl, b6⟩
      go_wp2_with fail
      go_ret
      exact ⟨rfl, bnext hB5 b6⟩
  · have ho : bo 2 f = false := by rw [Ho.out]; simp [t1]
    have e0 : (f % 24 == 0) = false := by simpa using t1
    clear t1
    generalize bk 2 f = x at *
    have e4 : IntKind.i64.wrap (p * 64) = p * 64 := IntWalk.i64_in _ (by omega)
    have e5 : decide (t + 1 ≤ p * 64) = true := by simpa using p3
    have e6 : IntKind.i64.wrap (p - 1) = p - 1 := IntWalk.i64_in _ (by omega)
    have e7 : IntKind.i64.wrap ((p - 1) * 64) = (p - 1) * 64 := IntWalk.i64_in _ (by omega)
    have e8 : decide ((p - 1) * 64 < t + 1) = true := by simpa using p4
    have e9 : IntKind.i64.wrap f = f := IntWalk.i64_in _ (by omega)
    refine region_quiet_tail 61 (by kernel_rfl) (by kernel_rfl) ?_
    simp only [List.take_succ_cons, List.take_zero, List.drop_succ_cons, List.drop_zero]
    repeat (go_big_quiet_step (fail))
    refine wpQuiet_nil ?_
    have hB5 := hB.drew
    generalize w3.drew = w5 at *
    clear r0 r2
    go_wp2_with fail
    refine (awake_any _).mono ?_
    rintro e w6 ⟨rfl, b6⟩
    go_wp2_with fail
    go_ret
    exact ⟨rfl, bnext hB5 b6⟩
end Go.Proofs.Ytjbcffcjepkbgaa
