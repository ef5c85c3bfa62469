/- The reference functions Size, Align, Blocks, Block by their numbers. Condition for the first three: a class from 0 to 3. -/
import Derived.Test.YtjbcffcjepkbgaaAw
namespace Go.Proofs.Ytjbcffcjepkbgaa
open Go.RowKit

set_option maxHeartbeats 400000 in
theorem rsize_any (c : Int) (w : World) (h1 : 0 ≤ c) (h2 : c ≤ 3) :
    Calls Try.prog 19 #[.int .i64 c] w fun e w' => e = .returned (.int .i64 (szI c)) ∧ Below w.heap.size w w' := by
  rcases (show c = 0 ∨ c = 1 ∨ c = 2 ∨ c = 3 by omega) with rfl | rfl | rfl | rfl
  all_goals
    go_enter Try.func19, Try.ntmps19
    go_wp2
    go_ret
    exact ⟨rfl, (Below.refl _ _).alloc (Nat.le_refl _) _⟩

set_option maxHeartbeats 400000 in
theorem ralign_any (c : Int) (w : World) (h1 : 0 ≤ c) (h2 : c ≤ 3) :
    Calls Try.prog 20 #[.int .i64 c] w fun e w' => e = .returned (.int .i64 (alI c)) ∧ Below w.heap.size w w' := by
  rcases (show c = 0 ∨ c = 1 ∨ c = 2 ∨ c = 3 by omega) with rfl | rfl | rfl | rfl
  all_goals
    go_enter Try.func20, Try.ntmps20
    go_wp2
    go_ret
    exact ⟨rfl, (Below.refl _ _).alloc (Nat.le_refl _) _⟩

set_option maxHeartbeats 400000 in
theorem rblocks_any (c : Int) (w : World) (h1 : 0 ≤ c) (h2 : c ≤ 3) :
    Calls Try.prog 18 #[.int .i64 c] w fun e w' => e = .returned (.int .i64 (blI c)) ∧ Below w.heap.size w w' := by
  rcases (show c = 0 ∨ c = 1 ∨ c = 2 ∨ c = 3 by omega) with rfl | rfl | rfl | rfl
  all_goals
    go_enter Try.func18, Try.ntmps18
    go_wp2
    go_ret
    exact ⟨rfl, (Below.refl _ _).alloc (Nat.le_refl _) _⟩

def rbI (c off : Int) : Int := if bo c off then off / szI c else -1

theorem szI_pos (c : Int) : 8 ≤ szI c ∧ szI c ≤ 32 := by unfold szI; omega
theorem blI_pos (c : Int) : 2 ≤ blI c ∧ blI c ≤ 8 := by unfold blI; omega

/-- no block from 0 to k - 1 begins there -/
def nob (c off : Int) (k : Nat) : Prop := ∀ j : Nat, j < k → off ≠ (j : Int) * szI c
theorem nob_step {c off : Int} {k : Nat} (h : nob c off k) (hk : off ≠ (k : Int) * szI c) : nob c off (k + 1) := by
  intro j hj
  by_cases e : j = k
  · subst e; exact hk
  · exact h j (by omega)
theorem rb_hit {c off : Int} {k : Nat} (h1 : 0 ≤ c) (h2 : c ≤ 3) (hk : (k : Int) < blI c) (h : off = (k : Int) * szI c) : rbI c off = k := by
  have hs := szI_pos c
  have hd : off / szI c = k := by rw [h]; exact Int.mul_ediv_cancel _ (by omega)
  have hm : off % szI c = 0 := by rw [h]; exact Int.mul_emod_left _ _
  have h0 : 0 ≤ off := by rw [h]; exact Int.mul_nonneg (by omega) (by omega)
  have hb : bo c off = true := by simp [bo, hd, hm, h1, h0, hk, show c < 4 by omega]
  simp [rbI, hb, hd]
theorem rb_miss {c off : Int} (hk : nob c off (blI c).toNat) : rbI c off = -1 := by
  have hs := szI_pos c
  unfold rbI
  rw [if_neg]
  intro hb
  simp only [bo, Bool.and_eq_true, decide_eq_true_eq, beq_iff_eq] at hb
  obtain ⟨_, _, h0, hm, hd⟩ := hb
  have hq : 0 ≤ off / szI c := Int.ediv_nonneg h0 (by omega)
  refine hk (off / szI c).toNat (by omega) ?_
  rw [Int.toNat_of_nonneg hq]
  have := Int.mul_ediv_add_emod off (szI c)
  rw [hm, Int.mul_comm] at this
  omega

set_option maxHeartbeats 1000000 in
theorem rblock_yes (c off : Int) (w : World) (h1 : 0 ≤ c) (h2 : c ≤ 3) :
    Calls Try.prog 14 #[.int .i64 c, .int .i64 off] w fun e w' => e = .returned (.int .i64 (rbI c off)) ∧ Below w.heap.size w w' := by
  have hb := blI_pos c
  have hs := szI_pos c
  go_enter Try.func14, Try.ntmps14
  go_wp2_with fail
  go_loopw [5] (fun i wr => ∃ k : Nat, (k : Int) ≤ blI c ∧ i = .int .i64 k ∧ Hid (nob c off k) ∧ Below w.heap.size w wr) (fun i _ => 8 - (intOf i).toNat)
  case atStart => exact ⟨0, by omega, rfl, Lib.hid (fun j hj => by omega), Below.refl _ _⟩
  case round =>
    obtain ⟨k, hk, rfl, hn, hB⟩ := hrel
    go_wp2_with fail
    refine (rblocks_any _ _ h1 h2).mono ?_
    rintro e w1 ⟨rfl, b1⟩
    by_cases hlt : (k : Int) < blI c
    · go_wp2_with fail
      refine (rsize_any _ _ h1 h2).mono ?_
      rintro e w2 ⟨rfl, b2⟩
      have hm : 0 ≤ (k : Int) * szI c := Int.mul_nonneg (by omega) (by omega)
      have hm' : (k : Int) * szI c ≤ 256 := by
        have : (k : Int) * szI c ≤ 8 * szI c := Int.mul_le_mul_of_nonneg_right (by omega) (by omega)
        omega
      go_wp2_with fail
      · go_ret
        have hh : off = (k : Int) * szI c := by
          have h' : (off == (k : Int) * szI c) = true := by assumption
          simpa using h'
        exact ⟨ret_int (rb_hit h1 h2 hlt hh).symm, bnext (bnext hB b1) b2⟩
      · have hh : ¬ off = (k : Int) * szI c := by
          have h' : (off == (k : Int) * szI c) = false := by assumption
          simpa using h'
        go_roundw
        case rel => exact ⟨k + 1, by omega, by go_num, Lib.hid (nob_step hn.out hh), bnext (bnext hB b1) b2⟩
        case measure => simp [intOf]; omega
    · go_wp2_with fail
      go_ret
      refine ⟨ret_int ?_, bnext hB b1⟩
      have e : (blI c).toNat = k := by omega
      exact (rb_miss (by rw [e]; exact hn.out)).symm

theorem rblock_any (c off : Int) (w : World) :
    Calls Try.prog 14 #[.int .i64 c, .int .i64 off] w fun e w' => e = .returned (.int .i64 (rbI c off)) ∧ Below w.heap.size w w' := by
  by_cases h : c < 0 ∨ 3 < c
  · have hb : bo c off = false := by
      simp only [bo, Bool.and_eq_false_iff, decide_eq_false_iff_not]
      omega
    have e : rbI c off = -1 := by simp [rbI, hb]
    rw [e]
    rcases h with h | h
    · go_enter Try.func14, Try.ntmps14
      go_wp2
      go_ret
      exact ⟨rfl, Below.refl _ _⟩
    · by_cases hc : c < 0
      · omega
      go_enter Try.func14, Try.ntmps14
      go_wp2
      go_ret
      exact ⟨rfl, Below.refl _ _⟩
  · exact rblock_yes c off w (by omega) (by omega)
end Go.Proofs.Ytjbcffcjepkbgaa
