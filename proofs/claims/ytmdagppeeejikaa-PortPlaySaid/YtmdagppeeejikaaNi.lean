/- Ports behind Tell and Fresh; nil ports; a port to no memory. Condition: the numbers fit their kinds. -/
import Derived.Test.YtmdagppeeejikaaNh
namespace Go.Proofs.Ytmdagppeeejikaa
open Go.RowKit
set_option linter.unusedVariables false

theorem PH.tell {w0 w w' : World} {d ws m bw bb : Nat} {sf s : Int} {told told' : Value} {W B : List Int} (h : PH w0 w d ws m bw bb sf s told W B) (Q : IsPort w' d ws m sf s told') (c : Ch [d] w w') : PH w0 w' d ws m bw bb sf s told' W B := by
  have n1 : d ≠ m := h.port.top.ne h.mem.top (by decide)
  have n2 : d ≠ bw := h.port.top.ne h.mem.words (by decide)
  have n3 : d ≠ bb := h.port.top.ne h.mem.bytes (by decide)
  exact ⟨Q, h.mem.ch c (by simpa using n1.symm) (by simpa using n2.symm) (by simpa using n3.symm), Ch.below h.below c h.below.size (by intro k hk; simp at hk; subst hk; exact h.ld), h.ls, h.lw, h.lb, h.ld⟩
theorem PH.fresh {w0 w w' : World} {d ws m bw bb : Nat} {sf s : Int} {told : Value} {W B : List Int} (h : PH w0 w d ws m bw bb sf s told W B) (Q : IsPort w' d ws m sf 0 (.pointer none)) (c : Ch [ws, d] w w') : PH w0 w' d ws m bw bb sf 0 (.pointer none) W B := by
  have n1 : d ≠ m := h.port.top.ne h.mem.top (by decide)
  have n2 : d ≠ bw := h.port.top.ne h.mem.words (by decide)
  have n3 : d ≠ bb := h.port.top.ne h.mem.bytes (by decide)
  have k1 : ws ≠ m := h.port.ways.ne h.mem.top (by decide)
  have k2 : ws ≠ bw := h.port.ways.ne h.mem.words (by decide)
  have k3 : ws ≠ bb := h.port.ways.ne h.mem.bytes (by decide)
  refine ⟨Q, h.mem.ch c ?_ ?_ ?_, Ch.below h.below c h.below.size ?_, h.ls, h.lw, h.lb, h.ld⟩
  · simp; omega
  · simp; omega
  · simp; omega
  · intro k hk
    simp at hk
    rcases hk with rfl | rfl
    · exact h.ls
    · exact h.ld
/-- nothing was told, or a result that lies somewhere -/
def Tld (w : World) (told : Value) : Prop := told = .pointer none ∨ ∃ x v, told = .pointer (some ⟨x, 0, none⟩) ∧ At w x (res v) 70
theorem Tld.below {w w' : World} {told : Value} (h : Tld w told) (hb : Below w.heap.size w w') : Tld w' told := by
  rcases h with h | ⟨x, v, h, A⟩
  · exact .inl h
  · exact .inr ⟨x, v, h, A.below hb⟩
theorem Tld.ch {w w' : World} {told : Value} {l : List Nat} (h : Tld w told) (c : Ch l w w') (hl : ∀ k ∈ l, ∃ cs t, At w k cs t ∧ t ≠ 70) : Tld w' told := by
  rcases h with h | ⟨x, v, h, A⟩
  · exact .inl h
  · refine .inr ⟨x, v, h, A.ch c fun hx => ?_⟩
    obtain ⟨cs, t, hA, ht⟩ := hl x hx
    exact A.ne hA ht.symm rfl
theorem Tld.did {w w' : World} {told t' : Value} {d ws m bw bb : Nat} {sf s : Int} {W B : List Int} {k t a b : Int} (h : Tld w told) (H : IsPort w d ws m sf s t') (M : IsMem w m bw bb W B) (D : PDo d ws m bw bb sf s t' W B k t a b w w') : Tld w' told := by
  refine h.ch D.ch ?_
  intro k hk
  simp at hk
  rcases hk with rfl | rfl | rfl
  · exact ⟨_, _, H.ways, by decide⟩
  · exact ⟨_, _, M.words, by decide⟩
  · exact ⟨_, _, M.bytes, by decide⟩
section
variable {w0 w w' : World} {N d1 ws1 m1 bw1 bb1 d2 ws2 m2 bw2 bb2 : Nat} {s1 s2 : Int} {t1 t2 t1' : Value} {W1 B1 W2 B2 : List Int}
theorem Both.tell (h : Both w0 w N d1 ws1 m1 bw1 bb1 d2 ws2 m2 bw2 bb2 s1 s2 t1 t2 W1 B1 W2 B2) (Q : IsPort w' d1 ws1 m1 0 s1 t1') (c : Ch [d1] w w') : Both w0 w' N d1 ws1 m1 bw1 bb1 d2 ws2 m2 bw2 bb2 s1 s2 t1' t2 W1 B1 W2 B2 := by
  obtain ⟨p, q, pd, ps, pm, pw, pb, qd, qs, qm, qw, qb⟩ := h
  refine ⟨p.tell Q c, q.other c ?_ ?_ ?_ ?_ ?_ ?_, pd, ps, pm, pw, pb, qd, qs, qm, qw, qb⟩
  · intro k hk
    simp at hk
    subst hk
    exact p.ld
  all_goals simp; omega
theorem Both.fresh (h : Both w0 w N d1 ws1 m1 bw1 bb1 d2 ws2 m2 bw2 bb2 s1 s2 t1 t2 W1 B1 W2 B2) (Q : IsPort w' d1 ws1 m1 0 0 (.pointer none)) (c : Ch [ws1, d1] w w') : Both w0 w' N d1 ws1 m1 bw1 bb1 d2 ws2 m2 bw2 bb2 0 s2 (.pointer none) t2 W1 B1 W2 B2 := by
  obtain ⟨p, q, pd, ps, pm, pw, pb, qd, qs, qm, qw, qb⟩ := h
  refine ⟨p.fresh Q c, q.other c ?_ ?_ ?_ ?_ ?_ ?_, pd, ps, pm, pw, pb, qd, qs, qm, qw, qb⟩
  · intro k hk
    simp at hk
    rcases hk with rfl | rfl
    · exact p.ls
    · exact p.ld
  all_goals simp; omega
end

/-- a result goes into a variable of its own -/
theorem wpList_new_res {ops : Array Oper} {rest : List Oper} {o : Oper} {a : Act} {w : World} {Q : Exit → Act → World → Prop} (hgd : o.guard = none) (x y : Operand) (ho : o.op = .store 70 x y)
    (hx : a.eval x = .pointer (some ⟨w.heap.size, 0, none⟩)) (v : Nat → Int) (hy : a.eval y = .agg (res v))
    (h : ∀ W, At W w.heap.size (res v) 70 → Below w.heap.size w W → wpList Try.prog ops Q rest (a.put o.dst undef) W) : wpList Try.prog ops Q (o :: rest) a (w.alloc (.cells (res fun _ => 0) 70)) := by
  have hr : (w.alloc (.cells (res fun _ => 0) 70)).heap[w.heap.size]? = some (.cells (res fun _ => 0) 70 (0, 0)) := heap_alloc_new _ _
  exact wpList_store_row hgd 70 x y ho w.heap.size (res v) hx hy 70 _ hr (info70 _) rfl (one70 _) (h _ (setRow_heap _ _ _ _ _ _ hr) (below_setRow ((Below.refl _ w).alloc (Nat.le_refl _) _) (Nat.le_refl _) _))

theorem way_nil (w : World) : Calls Try.prog 46 #[.pointer none] w fun e w' => e = .returned (.pointer none) ∧ w' = w := by
  go_enter Try.func46, Try.ntmps46
  go_wp2_with fail
  go_ret
  exact ⟨rfl, rfl⟩
theorem ways_nil (k t a b : Int) (w : World) : Calls Try.prog 47 #[.pointer none, .int .u8 k, .int .i64 t, .int .u64 a, .int .u64 b] w fun e w' => e = .returned (.int .u64 0) ∧ w' = w := by
  go_enter Try.func47, Try.ntmps47
  go_wp2_with fail
  go_ret
  exact ⟨rfl, rfl⟩
theorem n_load (t : Int) (w : World) : Calls Try.prog 30 #[.pointer none, .int .i64 t] w fun e w' => e = .returned (.int .u64 0) ∧ w' = w := by
  go_enter Try.func30, Try.ntmps30
  go_wp2_with fail
  refine (way_nil _).mono ?_
  rintro e w1 ⟨rfl, hw1⟩
  have hw1 := hw1.symm
  subst hw1
  go_wp2_with fail
  refine (ways_nil 1 t 0 0 _).mono ?_
  rintro e w1 ⟨rfl, hw1⟩
  have hw1 := hw1.symm
  subst hw1
  go_wp2_with fail
  go_ret
  exact ⟨rfl, rfl⟩
theorem n_store (t a : Int) (w : World) : Calls Try.prog 27 #[.pointer none, .int .i64 t, .int .u64 a] w fun e w' => e = .returned (.tuple #[]) ∧ w' = w := by
  go_enter Try.func27, Try.ntmps27
  go_wp2_with fail
  refine (way_nil _).mono ?_
  rintro e w1 ⟨rfl, hw1⟩
  have hw1 := hw1.symm
  subst hw1
  go_wp2_with fail
  refine (ways_nil 2 t a 0 _).mono ?_
  rintro e w1 ⟨rfl, hw1⟩
  have hw1 := hw1.symm
  subst hw1
  go_wp2_with fail
  go_end0
  exact ⟨rfl, rfl⟩
theorem n_cas (t a b : Int) (w : World) : Calls Try.prog 29 #[.pointer none, .int .i64 t, .int .u64 a, .int .u64 b] w fun e w' => e = .returned (.bool false) ∧ w' = w := by
  go_enter Try.func29, Try.ntmps29
  go_wp2_with fail
  refine (way_nil _).mono ?_
  rintro e w1 ⟨rfl, hw1⟩
  have hw1 := hw1.symm
  subst hw1
  go_wp2_with fail
  refine (ways_nil 3 t a b _).mono ?_
  rintro e w1 ⟨rfl, hw1⟩
  have hw1 := hw1.symm
  subst hw1
  go_wp2_with fail
  go_ret
  exact ⟨rfl, rfl⟩
theorem n_add (t a : Int) (w : World) : Calls Try.prog 28 #[.pointer none, .int .i64 t, .int .u64 a] w fun e w' => e = .returned (.int .u64 0) ∧ w' = w := by
  go_enter Try.func28, Try.ntmps28
  go_wp2_with fail
  refine (way_nil _).mono ?_
  rintro e w1 ⟨rfl, hw1⟩
  have hw1 := hw1.symm
  subst hw1
  go_wp2_with fail
  refine (ways_nil 4 t a 0 _).mono ?_
  rintro e w1 ⟨rfl, hw1⟩
  have hw1 := hw1.symm
  subst hw1
  go_wp2_with fail
  go_ret
  exact ⟨rfl, rfl⟩
theorem n_get (t : Int) (w : World) : Calls Try.prog 33 #[.pointer none, .int .i64 t] w fun e w' => e = .returned (.int .u8 0) ∧ w' = w := by
  go_enter Try.func33, Try.ntmps33
  go_wp2_with fail
  refine (way_nil _).mono ?_
  rintro e w1 ⟨rfl, hw1⟩
  have hw1 := hw1.symm
  subst hw1
  go_wp2_with fail
  refine (ways_nil 5 t 0 0 _).mono ?_
  rintro e w1 ⟨rfl, hw1⟩
  have hw1 := hw1.symm
  subst hw1
  go_wp2_with fail
  go_ret
  exact ⟨rfl, rfl⟩
theorem n_put (t a : Int) (a0 : 0 ≤ a) (a1 : a < 256) (w : World) : Calls Try.prog 41 #[.pointer none, .int .i64 t, .int .u8 a] w fun e w' => e = .returned (.tuple #[]) ∧ w' = w := by
  go_enter Try.func41, Try.ntmps41
  go_wp2_with fail
  refine (way_nil _).mono ?_
  rintro e w1 ⟨rfl, hw1⟩
  have hw1 := hw1.symm
  subst hw1
  go_wp2_with fail
  refine (ways_nil 6 t a 0 _).mono ?_
  rintro e w1 ⟨rfl, hw1⟩
  have hw1 := hw1.symm
  subst hw1
  go_wp2_with fail
  go_end0
  exact ⟨rfl, rfl⟩
theorem n_steps (w : World) : Calls Try.prog 40 #[.pointer none] w fun e w' => e = .returned (.int .i64 0) ∧ w' = w := by
  go_enter Try.func40, Try.ntmps40
  go_wp2_with fail
  refine (way_nil _).mono ?_
  rintro e w1 ⟨rfl, hw1⟩
  have hw1 := hw1.symm
  subst hw1
  go_wp2_with fail
  go_ret
  exact ⟨rfl, rfl⟩
theorem n_self (w : World) : Calls Try.prog 44 #[.pointer none] w fun e w' => e = .returned (.int .i64 0) ∧ w' = w := by
  go_enter Try.func44, Try.ntmps44
  go_wp2_with fail
  go_ret
  exact ⟨rfl, rfl⟩
theorem n_fresh (w : World) : Calls Try.prog 43 #[.pointer none] w fun e w' => e = .returned (.tuple #[]) ∧ w' = w := by
  go_enter Try.func43, Try.ntmps43
  go_wp2_with fail
  refine (way_nil _).mono ?_
  rintro e w1 ⟨rfl, hw1⟩
  have hw1 := hw1.symm
  subst hw1
  go_wp2_with fail
  go_end0
  exact ⟨rfl, rfl⟩
theorem n_tell (v : Nat → Int) (w : World) : Calls Try.prog 39 #[.pointer none, .agg (res v)] w fun e w' => e = .returned (.tuple #[]) ∧ Below w.heap.size w w' := by
  go_enter Try.func39, Try.ntmps39
  go_wp2_with fail
  go_end0
  exact ⟨rfl, (Below.refl _ w).alloc (Nat.le_refl _) _⟩
set_option maxHeartbeats 1000000 in
theorem n_told (w : World) : Calls Try.prog 42 #[.pointer none] w (ToldIs (fun _ => 0) false w) := by
  go_enter Try.func42, Try.ntmps42
  go_upto_region 1 with fail
  generalize hV : World.alloc w _ = V
  have hB : Below w.heap.size w V := hV ▸ (Below.refl _ w).alloc (Nat.le_refl _) _
  have X : At V w.heap.size (res fun _ => 0) 70 := hV ▸ At.last w _ 70
  clear hV
  go_wp2_with (refine wpList_store_row rfl 70 (.tmp 2) (.tmp 13) rfl w.heap.size (res fun _ => 0) rfl rfl 70 _ X (info70 _) rfl (one70 _) ?_)
  refine bodyPost_ret (results_row_tmp (p := 2) (u := 3) (ty := 70) rfl _ _ w.heap.size 70 (res fun _ => 0) (0, 0) _ _ rfl rfl (setRow_heap _ _ _ _ _ _ X) Try.underlying70 rfl (info70 _)) rfl ?_
  exact ⟨rfl, below_setRow hB (Nat.le_refl _) _⟩

/-- block d is a port to no memory, behind w0 -/
structure Lone (w0 w : World) (d ws : Nat) (sf s : Int) : Prop where
  top : At w d #[.pointer (some ⟨ws, 0, none⟩), .int .i64 sf, .pointer none] 89
  ways : At w ws #[.pointer none, .int .i64 s] 86
  below : Below w0.heap.size w0 w
  ls : w0.heap.size ≤ ws
  ld : w0.heap.size ≤ d
theorem Lone.after {w0 w w' : World} {d ws : Nat} {sf s : Int} (h : Lone w0 w d ws sf s) (hb : Below w.heap.size w w') : Lone w0 w' d ws sf s := ⟨h.top.below hb, h.ways.below hb, bnext h.below hb, h.ls, h.ld⟩
theorem l_new (sf : Int) (w : World) : Calls Try.prog 25 #[.pointer none, .int .i64 sf] w fun e w' => ∃ d ws, e = .returned (.pointer (some ⟨d, 0, none⟩)) ∧ Lone w w' d ws sf 0 := by
  go_enter Try.func25, Try.ntmps25
  go_wp2_with fail
  go_ret
  refine ⟨_, _, rfl, ⟨?_, ?_, ((Below.refl _ w).alloc (Nat.le_refl _) _).alloc (by simp) _, Nat.le_refl _, by simp⟩⟩
  · have h := At.last (w.alloc (.cells #[.pointer none, .int .i64 0] 86)) #[.pointer (some ⟨w.heap.size, 0, none⟩), .int .i64 sf, .pointer none] 89
    rw [show (w.alloc (.cells #[.pointer none, .int .i64 0] 86)).heap.size = w.heap.size + 1 from by simp] at h
    exact h
  · exact (At.last w _ _).alloc _
set_option maxHeartbeats 1000000 in
theorem l_do {w0 : World} {d ws : Nat} {sf s : Int} (k t a b : Int) (w : World) (H : Lone w0 w d ws sf s) (s0 : 0 ≤ s) (s1 : s ≤ 1000000) :
    Calls Try.prog 47 #[.pointer (some ⟨ws, 0, none⟩), .int .u8 k, .int .i64 t, .int .u64 a, .int .u64 b] w fun e w' => e = .returned (.int .u64 0) ∧ Lone w0 w' d ws sf (s + 1) := by
  have c0 := H.ways.cell 0 rfl
  have c1 := H.ways.cell 1 rfl
  have f1 := frozen_of_row _ _ 1 _ _ H.ways
  have hs : IntKind.i64.wrap (s + 1) = s + 1 := IntWalk.i64_in _ (by omega)
  have n1 : d ≠ ws := H.top.ne H.ways (by decide)
  go_enter Try.func47, Try.ntmps47
  go_wp2_with fail
  go_ret
  exact ⟨rfl, at_set H.top ⟨ws, 1, none⟩ _ n1, heap_setCell_same w ws 1 _ 86 (.int .i64 (s + 1)) H.ways, H.below.setCell H.ls _, H.ls, H.ld⟩
theorem l_load {w0 : World} {d ws : Nat} {sf s : Int} (t : Int) (w : World) (H : Lone w0 w d ws sf s) (s0 : 0 ≤ s) (s1 : s ≤ 1000000) : Calls Try.prog 30 #[.pointer (some ⟨d, 0, none⟩), .int .i64 t] w fun e w' => e = .returned (.int .u64 0) ∧ Lone w0 w' d ws sf (s + 1) := by
  have C1 := Lib.hid (way_any d ws (.int .i64 sf) (.pointer none) w H.top)
  have C2 := Lib.hid (l_do 1 t 0 0 w H s0 s1)
  go_enter Try.func30, Try.ntmps30
  go_wp2_with fail
  refine C1.out.mono ?_
  rintro e w1 ⟨rfl, hw1⟩
  have hw1 := hw1.symm
  subst hw1
  go_wp2_with fail
  refine C2.out.mono ?_
  rintro e w1 ⟨rfl, H1⟩
  go_wp2_with fail
  go_ret
  exact ⟨rfl, H1⟩
theorem l_store {w0 : World} {d ws : Nat} {sf s : Int} (t a : Int) (w : World) (H : Lone w0 w d ws sf s) (s0 : 0 ≤ s) (s1 : s ≤ 1000000) : Calls Try.prog 27 #[.pointer (some ⟨d, 0, none⟩), .int .i64 t, .int .u64 a] w fun e w' => e = .returned (.tuple #[]) ∧ Lone w0 w' d ws sf (s + 1) := by
  have C1 := Lib.hid (way_any d ws (.int .i64 sf) (.pointer none) w H.top)
  have C2 := Lib.hid (l_do 2 t a 0 w H s0 s1)
  go_enter Try.func27, Try.ntmps27
  go_wp2_with fail
  refine C1.out.mono ?_
  rintro e w1 ⟨rfl, hw1⟩
  have hw1 := hw1.symm
  subst hw1
  go_wp2_with fail
  refine C2.out.mono ?_
  rintro e w1 ⟨rfl, H1⟩
  go_wp2_with fail
  go_end0
  exact ⟨rfl, H1⟩
theorem l_steps {w0 : World} {d ws : Nat} {sf s : Int} (w : World) (H : Lone w0 w d ws sf s) : Calls Try.prog 40 #[.pointer (some ⟨d, 0, none⟩)] w fun e w' => e = .returned (.int .i64 s) ∧ w' = w := by
  have C1 := Lib.hid (way_any d ws (.int .i64 sf) (.pointer none) w H.top)
  have c0 := H.top.cell 0 rfl
  have c1 := H.ways.cell 1 rfl
  go_enter Try.func40, Try.ntmps40
  go_wp2_with fail
  refine C1.out.mono ?_
  rintro e w1 ⟨rfl, hw1⟩
  have hw1 := hw1.symm
  subst hw1
  go_wp2_with fail
  go_ret
  exact ⟨rfl, rfl⟩
theorem l_self {w0 : World} {d ws : Nat} {sf s : Int} (w : World) (H : Lone w0 w d ws sf s) : Calls Try.prog 44 #[.pointer (some ⟨d, 0, none⟩)] w fun e w' => e = .returned (.int .i64 sf) ∧ w' = w := by
  have c1 := H.top.cell 1 rfl
  go_enter Try.func44, Try.ntmps44
  go_wp2_with fail
  go_ret
  exact ⟨rfl, rfl⟩
end Go.Proofs.Ytmdagppeeejikaa
