/- Geom.New where there is a geometry, by its numbers. Condition: the numbers fit their kinds. -/
import Derived.Test.YtjdmchfneaebpaaGn
import Derived.Test.YtjdmchfneaebpaaFl
import Derived.Outline
import Derived.Deep.Cut
namespace Go.Proofs.Ytjdmchfneaebpaa
open Go.RowKit
set_option linter.unusedVariables false

/-- the sizes, as an array -/
def sz (n t : Int) : Array Value := #[.int .i64 1, .int .i64 1, .int .i64 5, .int .i64 9, .int .i64 1, .int .i64 4, .int .i64 t, .int .i64 n, .int .i64 n, .int .i64 n, .int .i64 (n * 8), .int .i64 (n * 8), .int .i64 (t * 4 * 2), .int .i64 (t * 4), .int .i64 (t * 2), .int .i64 t, .int .i64 (t * (2 * t + 2)), .int .i64 (ndI n t), .int .i64 (ndI n t * 8)]
def zz : Array Value := #[.int .i64 0, .int .i64 0, .int .i64 0, .int .i64 0, .int .i64 0, .int .i64 0, .int .i64 0, .int .i64 0, .int .i64 0, .int .i64 0, .int .i64 0, .int .i64 0, .int .i64 0, .int .i64 0, .int .i64 0, .int .i64 0, .int .i64 0, .int .i64 0, .int .i64 0]
theorem info_sz : (Try.prog.info? 39).map (·.size) = some 19 := by kernel_rfl
theorem one_sz (n t : Int) : ((sz n t).all fun x => x.oneCell') = true := by kernel_rfl
theorem run_alloc39 (w : World) : (Instr.alloc 39 true (.tuple #[])).run Try.prog w = .ok (ptr w) (w.alloc (.cells zz 39)) := by kernel_rfl
theorem alloc39 {o : Oper} {d : Nat} (ho : o.op = .alloc 39) (hd : o.dst = some d) (a : Act) (w : World) (K : Act → World → Prop) {Q : Exit → Act → World → Prop} (h : K (a.put (some d) (ptr w)) (w.alloc (.cells zz 39))) : o.wp Try.prog a w K Q := by
  unfold Oper.wp execOp
  simp only [ho, Sem.run_bind, run_alloc39, Result.andThen_ok, Sem.run_pure, Oper.upon, hd]
  exact h

theorem gb_get (n t : Int) (c : Nat → Int) (k : Nat) (h : k < 20) : (gb n t c)[2 + k]? = some (.int .i64 (c k)) := by
  rcases (show k = 0 ∨ k = 1 ∨ k = 2 ∨ k = 3 ∨ k = 4 ∨ k = 5 ∨ k = 6 ∨ k = 7 ∨ k = 8 ∨ k = 9 ∨ k = 10 ∨ k = 11 ∨ k = 12 ∨ k = 13 ∨ k = 14 ∨ k = 15 ∨ k = 16 ∨ k = 17 ∨ k = 18 ∨ k = 19 by omega) with rfl | rfl | rfl | rfl | rfl | rfl | rfl | rfl | rfl | rfl | rfl | rfl | rfl | rfl | rfl | rfl | rfl | rfl | rfl | rfl <;> rfl
theorem gb_set (n t : Int) (c : Nat → Int) (k : Nat) (h : k < 20) (v : Int) : (gb n t c).setIfInBounds (2 + k) (.int .i64 v) = gb n t (fun i => if i = k then v else c i) := by
  rcases (show k = 0 ∨ k = 1 ∨ k = 2 ∨ k = 3 ∨ k = 4 ∨ k = 5 ∨ k = 6 ∨ k = 7 ∨ k = 8 ∨ k = 9 ∨ k = 10 ∨ k = 11 ∨ k = 12 ∨ k = 13 ∨ k = 14 ∨ k = 15 ∨ k = 16 ∨ k = 17 ∨ k = 18 ∨ k = 19 by omega) with rfl | rfl | rfl | rfl | rfl | rfl | rfl | rfl | rfl | rfl | rfl | rfl | rfl | rfl | rfl | rfl | rfl | rfl | rfl | rfl <;> rfl
theorem cut_set (c : Nat → Int) (k : Nat) : (fun i => if i = k + 1 then c (k + 1) else cut c k i) = cut c (k + 1) := by
  funext i
  unfold cut
  by_cases h : i = k + 1
  · subst h; simp
  · rw [if_neg h]
    by_cases h2 : i ≤ k
    · rw [if_pos h2, if_pos (by omega)]
    · rw [if_neg h2, if_neg (by omega)]
theorem cut_zero (n t : Int) : gb n t (cut (bs n t) 0) = gb n t (fun _ => 0) := rfl
theorem cut_all (n t : Int) (c : Nat → Int) : gb n t (cut c 19) = gb n t c := rfl
theorem ix_sz (n t : Int) (k : Nat) (h : k < 19) (w : World) : (Instr.index 39 (.agg (sz n t)) (.int .i64 (k : Int))).run Try.prog w = .ok (.int .i64 (szs n t k)) w := by
  rcases (show k = 0 ∨ k = 1 ∨ k = 2 ∨ k = 3 ∨ k = 4 ∨ k = 5 ∨ k = 6 ∨ k = 7 ∨ k = 8 ∨ k = 9 ∨ k = 10 ∨ k = 11 ∨ k = 12 ∨ k = 13 ∨ k = 14 ∨ k = 15 ∨ k = 16 ∨ k = 17 ∨ k = 18 by omega) with rfl | rfl | rfl | rfl | rfl | rfl | rfl | rfl | rfl | rfl | rfl | rfl | rfl | rfl | rfl | rfl | rfl | rfl | rfl <;> kernel_rfl
theorem bs_bd (n t : Int) (n0 : 1 ≤ n) (n1 : n ≤ 256) (t0 : 1 ≤ t) (t1 : t ≤ 64) (k : Nat) (h : k < 20) : 0 ≤ bs n t k ∧ bs n t k ≤ 1000000 := by
  obtain ⟨a0, a1, b0, b1, c0, c1⟩ := nd_bounds n t (by omega) n1 (by omega) t1
  have hm : 0 ≤ ndI n t ∧ ndI n t ≤ 74176 := by unfold ndI; omega
  generalize hq : t * (2 * t + 2) = q at *
  generalize hz : ndI n t = m at *
  rcases (show k = 0 ∨ k = 1 ∨ k = 2 ∨ k = 3 ∨ k = 4 ∨ k = 5 ∨ k = 6 ∨ k = 7 ∨ k = 8 ∨ k = 9 ∨ k = 10 ∨ k = 11 ∨ k = 12 ∨ k = 13 ∨ k = 14 ∨ k = 15 ∨ k = 16 ∨ k = 17 ∨ k = 18 ∨ k = 19 by omega) with rfl | rfl | rfl | rfl | rfl | rfl | rfl | rfl | rfl | rfl | rfl | rfl | rfl | rfl | rfl | rfl | rfl | rfl | rfl | rfl <;> simp [bs, szs, hq, hz] <;> omega

set_option maxHeartbeats 2000000 in
theorem new_yes (n t : Int) (w : World) (n0 : 1 ≤ n) (n1 : n ≤ 256) (t0 : 1 ≤ t) (t1 : t ≤ 64) :
    Calls Try.prog 7 #[.int .i64 n, .int .i64 t] w fun e w' => e = .returned (.tuple #[.agg (gb n t (bs n t)), .bool true]) ∧ Below w.heap.size w w' := by
  have hz0 : (w.alloc (.cells (gb 0 0 (fun _ => 0)) 25)).heap.size = w.heap.size + 1 := by simp
  have hrow : ((w.alloc (.cells (gb 0 0 (fun _ => 0)) 25)).alloc (.cells (gb 0 0 (fun _ => 0)) 25)).heap[w.heap.size + 1]? = some (.cells (gb 0 0 (fun _ => 0)) 25 (0, 0)) := by rw [← hz0]; exact heap_alloc_new _ _
  have hr0 : ((w.alloc (.cells (gb 0 0 (fun _ => 0)) 25)).alloc (.cells (gb 0 0 (fun _ => 0)) 25)).heap[w.heap.size]? = some (.cells (gb 0 0 (fun _ => 0)) 25 (0, 0)) := heap_alloc2_old _ _ _
  have hb : ∀ w, (Instr.build 25 #[(0, .int .i64 n), (1, .int .i64 t)]).run Try.prog w = .ok (.agg (gb n t (fun _ => 0))) w := fun w => by kernel_rfl
  obtain ⟨a0, a1, b0, b1, c0, c1⟩ := nd_bounds n t (by omega) n1 (by omega) t1
  have hm : 0 ≤ ndI n t ∧ ndI n t ≤ 100000 := by unfold ndI; omega
  have w1 : IntKind.i64.wrap (n * 8) = n * 8 := IntWalk.i64_in _ (by omega)
  have w2 : IntKind.i64.wrap (t * 4) = t * 4 := IntWalk.i64_in _ (by omega)
  have w3 : IntKind.i64.wrap (t * 4 * 2) = t * 4 * 2 := IntWalk.i64_in _ (by omega)
  have w4 : IntKind.i64.wrap (t * 2) = t * 2 := IntWalk.i64_in _ (by omega)
  have w5 : IntKind.i64.wrap (t * (2 * t + 2)) = t * (2 * t + 2) := IntWalk.i64_in _ (by omega)
  have w6 : IntKind.i64.wrap (ndI n t * 8) = ndI n t * 8 := IntWalk.i64_in _ (by omega)
  have WS := Lib.hid (And.intro w1 (And.intro w2 (And.intro w3 (And.intro w4 (And.intro w5 w6)))))
  clear w1 w2 w3 w4 w5 w6
  have Hr := Lib.hid (fun w => room_any n t (fun _ => 0) w (by omega) t1)
  have Hd := Lib.hid (fun w => nodes_any n t (fun _ => 0) w n0 n1 (by omega) t1)
  go_enter Try.func7, Try.ntmps7
  go_upto_region 3 with fail
  go_wp2_with (refine wpList_store_row rfl 25 (.tmp 6) (.tmp 27) rfl (w.heap.size + 1) (gb n t (fun _ => 0)) rfl rfl 25 _ hrow info_gb rfl (one_gb _ _ _) ?_)
  generalize hW : World.setRow _ _ _ = W
  have A0 : At W w.heap.size (gb 0 0 (fun _ => 0)) 25 := by rw [← hW]; unfold At; rw [setRow_other _ _ _ _ (by omega)]; exact hr0
  have A1 : At W (w.heap.size + 1) (gb n t (fun _ => 0)) 25 := by rw [← hW]; exact setRow_heap _ _ _ _ _ _ hrow
  have hB : Below w.heap.size w W := by rw [← hW]; exact below_setRow (((Below.refl _ w).alloc (Nat.le_refl _) _).alloc (by simp) _) (by omega) _
  clear hW hrow hr0 hb hz0 a0 a1 b0 b1 c0 c1 hm
  obtain ⟨w1, w2, w3, w4, w5, w6⟩ := WS.out
  clear WS
  go_cut [7] from 28 (fun s7 wx => ∃ g, s7 = .pointer (some ⟨g, 0, none⟩) ∧ At wx g (sz n t) 39 ∧ Below W.heap.size W wx)
  case first =>
    refine region_float (n := 26) (d := 7) (ob := .cells zz 39) (A := ?A) (by kernel_rfl) (by kernel_rfl) (by kernel_rfl) rfl rfl rfl (fun a w K h => alloc39 rfl rfl a w K h) ?h1 ?h2
    case h1 =>
      intro x hx
      have L := load_gb (A1.below hx)
      simp only [List.take_succ_cons, List.take_zero]
      repeat (first | (go_big_quiet_want; refine quiet_load rfl rfl L ?_; simp only [Act.put, List.setIfInBounds_toArray, List.set_cons_succ, List.set_cons_zero]; go_big_quiet_on) | go_big_quiet_step (first | (go_at_call 31; exact below_of (Hr.out _)) | (go_at_call 9; exact below_of (Hd.out _))))
      refine wpQuiet_nil ?_
      rfl
    case h2 =>
      intro g x hx hg hlt hob
      simp only [List.drop_succ_cons, List.drop_zero, Act.put, List.setIfInBounds_toArray, List.set_cons_succ, List.set_cons_zero]
      refine wpList_store_row rfl 39 (.tmp 7) (.tmp 53) rfl g (sz n t) rfl rfl 39 _ hob info_sz rfl (one_sz _ _) ?_
      go_wp2_with fail
      go_meet
      exact ⟨_, rfl, setRow_heap _ _ _ _ _ _ hob, below_setRow hx hg _⟩
  case rest =>
  obtain ⟨g, rfl, AZ, Bw⟩ := hcut
  have A0 := A0.below Bw
  have A1 := A1.below Bw
  have hB := bnext hB Bw
  go_wp2_with (refine wpList_load_row rfl 39 (.tmp 7) rfl g rfl 39 (sz n t) (0, 0) _ AZ Try.underlying39 rfl info_sz ?_)
  go_loopw [55] (fun i wr => ∃ k : Nat, k ≤ 19 ∧ i = .int .i64 k ∧ At wr (w.heap.size + 1) (gb n t (cut (bs n t) k)) 25 ∧ At wr w.heap.size (gb 0 0 (fun _ => 0)) 25 ∧ Below w.heap.size w wr) (fun i _ => 19 - (intOf i).toNat)
  case atStart => exact ⟨0, by omega, rfl, A1, A0, hB⟩
  case round =>
    obtain ⟨k, hk, rfl, A1, A0, hB⟩ := hrel
    by_cases hlt : k < 19
    · have hI := ix_sz n t k hlt
      have c1 := A1.cell (2 + k) (gb_get n t _ k (by omega))
      have c2 := A1.cell (2 + (k + 1)) (gb_get n t _ (k + 1) (by omega))
      have f2 := frozen_of_row _ _ (2 + (k + 1)) _ _ A1
      go_wp2_with fail
      go_roundw
      case rel =>
        have hb := bs_bd n t n0 n1 t0 t1 (k + 1) (by omega)
        have hc : cut (bs n t) k k = bs n t k := by unfold cut; rw [if_pos (Nat.le_refl _)]
        have hw : wrap64 (cut (bs n t) k k + szs n t k) = bs n t (k + 1) := by rw [hc]; exact IntWalk.wrap64_in _ (by change _ ≤ bs n t (k + 1) ∧ bs n t (k + 1) ≤ _; omega)
        rw [hw]
        refine ⟨k + 1, by omega, by go_num, ?_, ?_, hB.setCell (by simp) _⟩
        · have := heap_setCell_same wr (w.heap.size + 1) (2 + (k + 1)) _ 25 (.int .i64 (bs n t (k + 1))) A1
          rw [gb_set _ _ _ _ (by omega), cut_set] at this
          exact this
        · unfold At; rw [heap_setCell_other _ _ _ _ (by simp)]; exact A0
      case measure => simp [intOf]; omega
    · obtain rfl : k = 19 := by omega
      rw [cut_all] at A1
      have hne : w.heap.size ≠ w.heap.size + 1 := by omega
      go_wp2_with (first
        | (refine wpList_load_row rfl 25 (.tmp 6) rfl (w.heap.size + 1) rfl 25 (gb n t (bs n t)) (0, 0) _ A1 Try.underlying25 rfl info_gb ?_)
        | (refine wpList_store_row rfl 25 (.tmp 4) (.tmp 70) rfl w.heap.size (gb n t (bs n t)) rfl rfl 25 _ A0 info_gb rfl (one_gb _ _ _) ?_))
      refine bodyPost_ret (results_row_tmp (p := 4) (u := 5) (ty := 25) rfl _ _ w.heap.size 25 (gb n t (bs n t)) (0, 0) _ _ rfl rfl (setRow_heap _ _ _ _ _ _ A0) Try.underlying25 rfl info_gb) rfl ?_
      exact ⟨rfl, below_setRow hB (Nat.le_refl _) _⟩
end Go.Proofs.Ytjdmchfneaebpaa
