/- Class.power and class.Pages by their numbers, and the blocks that are none. Condition: the numbers fit an int. -/
import Derived.Test.YtjbcffcjepkbgaaTb
namespace Go.Proofs.Ytjbcffcjepkbgaa
open Go.RowKit

def szI (c : Int) : Int := if c = 0 then 8 else if c = 1 then 16 else if c = 2 then 24 else 32
def alI (c : Int) : Int := if c = 0 then 8 else if c = 1 then 16 else if c = 2 then 8 else 32
def blI (c : Int) : Int := if c = 0 then 8 else if c = 1 then 4 else if c = 2 then 2 else 2
def pw (n : Int) : Bool := decide (0 < n) && (bits .and .i64 n (n - 1) == 0)
def bo (c off : Int) : Bool := decide (0 ≤ c) && (decide (c < 4) && (decide (0 ≤ off) && ((off % szI c == 0) && decide (off / szI c < blI c))))
def bk (c off : Int) : Int := if bo c off then off / szI c else 0
def pgI (s : Int) : Int := if s < 1 then 0 else (s - 1) / 64 + 1

theorem ix0 (w : World) : (Instr.index 24 (.agg tabV.toArray) (.int .i64 0)).run Try.prog w = .ok (.agg #[.int .i64 8, .int .i64 8, .int .i64 8]) w := by kernel_rfl
theorem ix1 (w : World) : (Instr.index 24 (.agg tabV.toArray) (.int .i64 1)).run Try.prog w = .ok (.agg #[.int .i64 16, .int .i64 16, .int .i64 4]) w := by kernel_rfl
theorem ix2 (w : World) : (Instr.index 24 (.agg tabV.toArray) (.int .i64 2)).run Try.prog w = .ok (.agg #[.int .i64 24, .int .i64 8, .int .i64 2]) w := by kernel_rfl
theorem ix3 (w : World) : (Instr.index 24 (.agg tabV.toArray) (.int .i64 3)).run Try.prog w = .ok (.agg #[.int .i64 32, .int .i64 32, .int .i64 2]) w := by kernel_rfl

theorem ret_int {k : IntKind} {a b : Int} (h : a = b) : Ending.returned (.int k a) = .returned (.int k b) := by rw [h]
theorem ret_bool {a b : Bool} (h : a = b) : Ending.returned (.bool a) = .returned (.bool b) := by rw [h]
theorem ret_ib {k : IntKind} {a b : Int} {c d : Bool} (h : a = b) (h' : c = d) : Ending.returned (.tuple #[.int k a, .bool c]) = .returned (.tuple #[.int k b, .bool d]) := by rw [h, h']

set_option maxHeartbeats 400000 in
theorem power_any (n : Int) (w : World) (h1 : -9223372036854775808 ≤ n) (h2 : n ≤ 9223372036854775807) :
    Calls Try.prog 17 #[.int .i64 n] w fun e w' => e = .returned (.bool (pw n)) ∧ w = w' := by
  by_cases h : 0 < n
  · have hp : pw n = (bits .and .i64 n (n - 1) == 0) := by simp [pw, h]
    rw [hp]
    go_enter Try.func17, Try.ntmps17
    go_wp2
    go_ret
    exact ⟨rfl, rfl⟩
  · have hp : pw n = false := by simp [pw, h]
    rw [hp]
    go_enter Try.func17, Try.ntmps17
    go_wp2
    go_ret
    exact ⟨rfl, rfl⟩

set_option maxHeartbeats 400000 in
theorem pages_any (n : Int) (w : World) (h1 : -9223372036854775808 ≤ n) (h2 : n ≤ 9223372036854775807) :
    Calls Try.prog 12 #[.int .i64 n] w fun e w' => e = .returned (.int .i64 (pgI n)) ∧ w = w' := by
  by_cases h : n < 1
  · have hp : pgI n = 0 := by simp [pgI, h]
    rw [hp]
    go_enter Try.func12, Try.ntmps12
    go_wp2
    go_ret
    exact ⟨rfl, rfl⟩
  · have hp : pgI n = (n - 1) / 64 + 1 := by simp [pgI, h]
    rw [hp]
    go_enter Try.func12, Try.ntmps12
    go_wp2
    go_ret
    exact ⟨rfl, rfl⟩

/-- what has no class, or no block there -/
theorem block_no (c off : Int) (w : World) (h : c < 0 ∨ 4 ≤ c ∨ off < 0) :
    Calls Try.prog 10 #[.int .i64 c, .int .i64 off] w fun e w' => e = .returned (.tuple #[.int .i64 0, .bool false]) ∧ Below w.heap.size w w' := by
  rcases h with h | h | h
  · go_enter Try.func10, Try.ntmps10
    go_wp2
    go_ret2
    exact ⟨rfl, Below.refl _ _⟩
  · by_cases hc : c < 0
    · omega
    go_enter Try.func10, Try.ntmps10
    go_wp2
    go_ret2
    exact ⟨rfl, Below.refl _ _⟩
  · by_cases hc : c < 0
    · go_enter Try.func10, Try.ntmps10
      go_wp2
      go_ret2
      exact ⟨rfl, Below.refl _ _⟩
    by_cases hc' : 4 ≤ c
    · go_enter Try.func10, Try.ntmps10
      go_wp2
      go_ret2
      exact ⟨rfl, Below.refl _ _⟩
    go_enter Try.func10, Try.ntmps10
    go_wp2
    go_ret2
    exact ⟨rfl, Below.refl _ _⟩
end Go.Proofs.Ytjbcffcjepkbgaa
