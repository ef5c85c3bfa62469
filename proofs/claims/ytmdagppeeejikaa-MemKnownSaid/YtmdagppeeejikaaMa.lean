/- The small functions of mem. Condition: the numbers fit their kinds. -/
import Derived.Test.YtmdagppeeejikaaFl
import Derived.WalkSpells
import Derived.WalkLawsBesides
import Derived.Handy
import Derived.Lib.Hide
import Derived.Laws.EntriesVeiled
import Derived.Deep.Cut
namespace Go.Proofs.Ytmdagppeeejikaa
open Go.RowKit
set_option linter.unusedVariables false

theorem results_row_only {P : Program} {fn : Func} {p : Tmp} {ty : TypeId} (h : fn.results = #[.cell p ty]) (tmps : Array Value) (w : World) (g : Nat) (t : TypeId) (cs : Array Value) (fr : Nat × Nat) (d : TypeDesc)
    (hp : tmps.getD p undef = .pointer (some ⟨g, 0, none⟩)) (hg : w.heap[g]? = some (.cells cs t fr))
    (hu : P.underlying ty = some d) (hd : (match d with | .struct _ | .array _ _ => true | _ => false) = true) (hi : (P.info? ty).map (·.size) = some cs.size) :
    (results fn tmps).run P w = .ok (.agg cs) w := results_cell_row h tmps w g t cs fr d hp hg hu hd hi
def knd : Array Value := #[.nilFunc, .func (.func 52) #[] #[], .func (.func 53) #[] #[], .func (.func 54) #[] #[], .func (.func 55) #[] #[]]
theorem info_knd : (Try.prog.info? 82).map (·.size) = some knd.size := by kernel_rfl
theorem kinds_any (w : World) : Calls Try.prog 45 #[] w fun e w' => e = .returned (.agg #[.nilFunc, .func (.func 52) #[] #[], .func (.func 53) #[] #[], .func (.func 54) #[] #[], .func (.func 55) #[] #[]]) ∧ Below w.heap.size w w' := by
  go_enter Try.func45, Try.ntmps45
  go_wp2_with fail
  refine bodyPost_ret (results_row_only (p := 0) (ty := 82) rfl _ _ w.heap.size 82 knd (0, 0) _ rfl (heap_alloc_new w _) Try.underlying82 rfl info_knd) rfl ?_
  exact ⟨rfl, (Below.refl _ w).alloc (Nat.le_refl _) _⟩
theorem words_any (w : World) (p : Nat) (v : Value) (n c : Nat) (ao : Option Addr) (hA : At w p #[.slice ao n c, v] 78) :
    Calls Try.prog 20 #[.pointer (some ⟨p, 0, none⟩)] w fun e w' => e = .returned (.int .i64 n) ∧ w' = w := by
  have c0 := hA.cell 0 rfl
  have c1 := hA.cell 1 rfl
  go_enter Try.func20, Try.ntmps20
  go_wp2_with fail
  go_ret
  exact ⟨rfl, rfl⟩
theorem bytes_any (w : World) (p : Nat) (v : Value) (n c : Nat) (ao : Option Addr) (hA : At w p #[v, .slice ao n c] 78) :
    Calls Try.prog 21 #[.pointer (some ⟨p, 0, none⟩)] w fun e w' => e = .returned (.int .i64 n) ∧ w' = w := by
  have c0 := hA.cell 0 rfl
  have c1 := hA.cell 1 rfl
  go_enter Try.func21, Try.ntmps21
  go_wp2_with fail
  go_ret
  exact ⟨rfl, rfl⟩
theorem words_nil (w : World) : Calls Try.prog 20 #[.pointer none] w fun e w' => e = .returned (.int .i64 0) ∧ w' = w := by
  go_enter Try.func20, Try.ntmps20
  go_wp2_with fail
  go_ret
  exact ⟨rfl, rfl⟩
theorem bytes_nil (w : World) : Calls Try.prog 21 #[.pointer none] w fun e w' => e = .returned (.int .i64 0) ∧ w' = w := by
  go_enter Try.func21, Try.ntmps21
  go_wp2_with fail
  go_ret
  exact ⟨rfl, rfl⟩

/-- an access, as a value -/
def acc (k t a b : Int) : Array Value := #[.int .u8 k, .int .i64 t, .int .u64 a, .int .u64 b]
/-- what an access of a word leaves there, and tells -/
def nowW (k x a b : Int) : Int := if k = 1 then x else if k = 2 then a else if k = 3 then (if x = a then b else x) else (x + a) % 18446744073709551616
def toldW (k x a : Int) : Int := if k = 1 then x else if k = 2 then 0 else if k = 3 then (if x = a then 1 else 0) else x

theorem f52 (x k t a b : Int) (w : World) : Calls Try.prog 52 #[.int .u64 x, .agg #[.int .u8 k, .int .i64 t, .int .u64 a, .int .u64 b]] w fun e w' => e = .returned (.tuple #[.int .u64 x, .int .u64 x]) ∧ Below w.heap.size w w' := by
  go_enter Try.func52, Try.ntmps52
  go_wp2_with fail
  go_ret2
  exact ⟨rfl, (Below.refl _ w).alloc (Nat.le_refl _) _⟩
theorem f53 (x k t a b : Int) (w : World) : Calls Try.prog 53 #[.int .u64 x, .agg #[.int .u8 k, .int .i64 t, .int .u64 a, .int .u64 b]] w fun e w' => e = .returned (.tuple #[.int .u64 a, .int .u64 0]) ∧ Below w.heap.size w w' := by
  go_enter Try.func53, Try.ntmps53
  go_wp2_with fail
  go_ret2
  exact ⟨rfl, (Below.refl _ w).alloc (Nat.le_refl _) _⟩
theorem f54 (x k t a b : Int) (w : World) : Calls Try.prog 54 #[.int .u64 x, .agg #[.int .u8 k, .int .i64 t, .int .u64 a, .int .u64 b]] w fun e w' => e = .returned (.tuple #[.int .u64 (if x = a then b else x), .int .u64 (if x = a then 1 else 0)]) ∧ Below w.heap.size w w' := by
  by_cases h : x = a
  · subst h
    rw [if_pos rfl, if_pos rfl]
    go_enter Try.func54, Try.ntmps54
    go_wp2_with fail
    go_ret2
    exact ⟨rfl, (Below.refl _ w).alloc (Nat.le_refl _) _⟩
  · rw [if_neg h, if_neg h]
    have h1 : (x != a) = true := by simpa using h
    have h2 : (x == a) = false := by simpa using h
    go_enter Try.func54, Try.ntmps54
    go_wp2_with fail
    go_ret2
    exact ⟨rfl, (Below.refl _ w).alloc (Nat.le_refl _) _⟩
theorem f55 (x k t a b : Int) (w : World) (x0 : 0 ≤ x) (x1 : x < 18446744073709551616) (a0 : 0 ≤ a) (a1 : a < 18446744073709551616) : Calls Try.prog 55 #[.int .u64 x, .agg #[.int .u8 k, .int .i64 t, .int .u64 a, .int .u64 b]] w fun e w' => e = .returned (.tuple #[.int .u64 ((x + a) % 18446744073709551616), .int .u64 x]) ∧ Below w.heap.size w w' := by
  go_enter Try.func55, Try.ntmps55
  go_wp2_with fail
  go_ret2
  exact ⟨rfl, (Below.refl _ w).alloc (Nat.le_refl _) _⟩
end Go.Proofs.Ytmdagppeeejikaa
