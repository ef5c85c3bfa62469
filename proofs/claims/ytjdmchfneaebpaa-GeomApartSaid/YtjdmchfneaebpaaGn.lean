/- Geom.Nodes, and New where there is no geometry, by their numbers. Condition: the numbers fit their kinds. -/
import Derived.Test.YtjdmchfneaebpaaGc
import Derived.Laws.CopyOwn
import Derived.Laws.ResultCell
namespace Go.Proofs.Ytjdmchfneaebpaa
open Go.RowKit
set_option linter.unusedVariables false

def ndI (n t : Int) : Int := t * 4 * (n + 1) + t * (2 * t + 3)
theorem nd_bounds (n t : Int) (n0 : 0 ≤ n) (n1 : n ≤ 256) (t0 : 0 ≤ t) (t1 : t ≤ 64) : 0 ≤ t * 4 * (n + 1) ∧ t * 4 * (n + 1) ≤ 65792 ∧ 0 ≤ t * (2 * t + 3) ∧ t * (2 * t + 3) ≤ 8384 ∧ 0 ≤ t * (2 * t + 2) ∧ t * (2 * t + 2) ≤ 8320 := by
  have h1 : t * 4 * (n + 1) ≤ 256 * 257 := Int.mul_le_mul (by omega) (by omega) (by omega) (by omega)
  have h2 : t * (2 * t + 3) ≤ 64 * 131 := Int.mul_le_mul t1 (by omega) (by omega) (by omega)
  have h3 : t * (2 * t + 2) ≤ 64 * 130 := Int.mul_le_mul t1 (by omega) (by omega) (by omega)
  exact ⟨Int.mul_nonneg (by omega) (by omega), h1, Int.mul_nonneg (by omega) (by omega), h2, Int.mul_nonneg (by omega) (by omega), h3⟩

set_option maxHeartbeats 1000000 in
theorem nodes_any (n t : Int) (c : Nat → Int) (w : World) (n0 : 1 ≤ n) (n1 : n ≤ 256) (t0 : 0 ≤ t) (t1 : t ≤ 64) :
    Calls Try.prog 9 #[.agg (gb n t c)] w fun e w' => e = .returned (.int .i64 (ndI n t)) ∧ Below w.heap.size w w' := by
  obtain ⟨a0, a1, b0, b1, _, _⟩ := nd_bounds n t (by omega) n1 t0 t1
  have hn : (n == 0) = false := by simp; omega
  unfold gb
  go_enter Try.func9, Try.ntmps9
  go_wp2_with fail
  go_ret
  exact ⟨rfl, (Below.refl _ w).alloc (Nat.le_refl _) _⟩

theorem results_row_tmp {P : Program} {fn : Func} {p u : Tmp} {ty : TypeId} (h : fn.results = #[.cell p ty, .tmp u]) (tmps : Array Value) (w : World) (g : Nat) (t : TypeId) (cs : Array Value) (fr : Nat × Nat) (d : TypeDesc) (v : Value)
    (hp : tmps.getD p undef = .pointer (some ⟨g, 0, none⟩)) (hv : tmps.getD u undef = v) (hg : w.heap[g]? = some (.cells cs t fr))
    (hu : P.underlying ty = some d) (hd : (match d with | .struct _ | .array _ _ => true | _ => false) = true) (hi : (P.info? ty).map (·.size) = some cs.size) :
    (results fn tmps).run P w = .ok (.tuple #[.agg cs, v]) w := by
  have hp' : tmps[p]?.getD undef = .pointer (some ⟨g, 0, none⟩) := by simpa using hp
  have hv' : tmps[u]?.getD undef = v := by simpa using hv
  simp [results, h, hp', hv', asAddr, run_loadVar_row w g t ty cs fr d hg hu hd hi]

theorem one_gb (n t : Int) (c : Nat → Int) : ((gb n t c).all fun x => x.oneCell') = true := by kernel_rfl
theorem zero_gb : ((List.replicate 22 (Value.int .i64 0)).toArray) = gb 0 0 (fun _ => 0) := rfl

set_option maxHeartbeats 1000000 in
theorem new_no (n t : Int) (w : World) (h : n < 1 ∨ 256 < n ∨ t < 1 ∨ 64 < t) :
    Calls Try.prog 7 #[.int .i64 n, .int .i64 t] w fun e w' => e = .returned (.tuple #[.agg (gb 0 0 (fun _ => 0)), .bool false]) ∧ Below w.heap.size w w' := by
  have hrow : (w.alloc (.cells (gb 0 0 (fun _ => 0)) 25)).heap[w.heap.size]? = some (.cells (gb 0 0 (fun _ => 0)) 25 (0, 0)) := heap_alloc_new w _
  have hb : ∀ w, (Instr.build 25 #[]).run Try.prog w = .ok (.agg (gb 0 0 (fun _ => 0))) w := fun w => by kernel_rfl
  by_cases h1 : n < 1
  · clear h
    go_enter Try.func7, Try.ntmps7
    go_upto_region 2 with fail
    go_wp2_with (refine wpList_store_row rfl 25 (.tmp 4) (.tmp 24) rfl w.heap.size (gb 0 0 (fun _ => 0)) rfl rfl 25 _ hrow info_gb rfl (one_gb _ _ _) ?_)
    refine bodyPost_ret (results_row_tmp (p := 4) (u := 5) (ty := 25) rfl _ _ w.heap.size 25 (gb 0 0 (fun _ => 0)) (0, 0) _ _ rfl rfl (setRow_heap _ _ _ _ _ _ hrow) Try.underlying25 rfl info_gb) rfl ?_
    exact ⟨rfl, below_setRow ((Below.refl _ w).alloc (Nat.le_refl _) _) (Nat.le_refl _) _⟩
  by_cases h2 : 256 < n
  · clear h
    go_enter Try.func7, Try.ntmps7
    go_upto_region 2 with fail
    go_wp2_with (refine wpList_store_row rfl 25 (.tmp 4) (.tmp 24) rfl w.heap.size (gb 0 0 (fun _ => 0)) rfl rfl 25 _ hrow info_gb rfl (one_gb _ _ _) ?_)
    refine bodyPost_ret (results_row_tmp (p := 4) (u := 5) (ty := 25) rfl _ _ w.heap.size 25 (gb 0 0 (fun _ => 0)) (0, 0) _ _ rfl rfl (setRow_heap _ _ _ _ _ _ hrow) Try.underlying25 rfl info_gb) rfl ?_
    exact ⟨rfl, below_setRow ((Below.refl _ w).alloc (Nat.le_refl _) _) (Nat.le_refl _) _⟩
  by_cases h3 : t < 1
  · clear h
    go_enter Try.func7, Try.ntmps7
    go_upto_region 2 with fail
    go_wp2_with (refine wpList_store_row rfl 25 (.tmp 4) (.tmp 24) rfl w.heap.size (gb 0 0 (fun _ => 0)) rfl rfl 25 _ hrow info_gb rfl (one_gb _ _ _) ?_)
    refine bodyPost_ret (results_row_tmp (p := 4) (u := 5) (ty := 25) rfl _ _ w.heap.size 25 (gb 0 0 (fun _ => 0)) (0, 0) _ _ rfl rfl (setRow_heap _ _ _ _ _ _ hrow) Try.underlying25 rfl info_gb) rfl ?_
    exact ⟨rfl, below_setRow ((Below.refl _ w).alloc (Nat.le_refl _) _) (Nat.le_refl _) _⟩
  · have h4 : 64 < t := by omega
    clear h
    go_enter Try.func7, Try.ntmps7
    go_upto_region 2 with fail
    go_wp2_with (refine wpList_store_row rfl 25 (.tmp 4) (.tmp 24) rfl w.heap.size (gb 0 0 (fun _ => 0)) rfl rfl 25 _ hrow info_gb rfl (one_gb _ _ _) ?_)
    refine bodyPost_ret (results_row_tmp (p := 4) (u := 5) (ty := 25) rfl _ _ w.heap.size 25 (gb 0 0 (fun _ => 0)) (0, 0) _ _ rfl rfl (setRow_heap _ _ _ _ _ _ hrow) Try.underlying25 rfl info_gb) rfl ?_
    exact ⟨rfl, below_setRow ((Below.refl _ w).alloc (Nat.le_refl _) _) (Nat.le_refl _) _⟩

/-- the regions' sizes -/
def szs (n t : Int) (k : Nat) : Int := ([1, 1, 5, 9, 1, 4, t, n, n, n, n * 8, n * 8, t * 4 * 2, t * 4, t * 2, t, t * (2 * t + 2), ndI n t, ndI n t * 8] : List Int).getD k 0
/-- where they begin -/
def bs (n t : Int) : Nat → Int
  | 0 => 0
  | k + 1 => bs n t k + szs n t k
/-- the first k of them are laid -/
def cut (c : Nat → Int) (k i : Nat) : Int := if i ≤ k then c i else 0
end Go.Proofs.Ytjdmchfneaebpaa
