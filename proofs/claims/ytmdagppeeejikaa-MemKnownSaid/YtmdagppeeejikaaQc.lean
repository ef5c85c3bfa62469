/- Copy and Same; of nil; a memory and its copy. Condition: the numbers fit their kinds. -/
import Derived.Test.YtmdagppeeejikaaQb
import Derived.Test.YtmdagppeeejikaaMe
namespace Go.Proofs.Ytmdagppeeejikaa
open Go.RowKit
set_option linter.unusedVariables false
set_option linter.unusedSimpArgs false

/-- what Copy leaves -/
def Copied (W B : List Int) (w : World) (e : Ending) (w' : World) : Prop := ∃ p u1 u2, e = .returned (.pointer (some ⟨p, 0, none⟩)) ∧ GM w' p w.heap.size u1 u2 W B ∧ Below w.heap.size w w' ∧ w.heap.size ≤ p
set_option maxHeartbeats 2000000 in
theorem g_copy {p base : Nat} {v1 v2 : Value} {W B : List Int} (w : World) (M : GM w p base v1 v2 W B) : Calls Try.prog 35 #[.pointer (some ⟨p, 0, none⟩)] w (Copied W B w) := by
  obtain ⟨a1, c1, rfl⟩ := own_shape M.ref.words
  obtain ⟨a2, c2, rfl⟩ := own_shape M.ref.bytes
  have m0 := M.top.cell 0 rfl
  have m1 := M.top.cell 1 rfl
  have HC1 := Lib.hid (fun (s : World) (hb : Below w.heap.size w s) => clone34 base _ W s (own_below M.ref.words hb) M.wlen)
  have HC2 := Lib.hid (fun (s : World) (hb : Below w.heap.size w s) => clone36 base _ B s (own_below M.ref.bytes hb) (Nat.le_trans M.blen (by decide)))
  have HT := Lib.hid (fun (s : World) (hb : Below w.heap.size w s) => M.top.below hb)
  have HM := Lib.hid M
  clear M
  go_enter Try.func35, Try.ntmps35
  go_upto_region 3 with fail
  go_region_with (first
    | (go_at_call 48; refine (HC1.out _ (Below.refl _ w).drew).mono ?_; rintro e y1 ⟨u1, rfl, O1, b1⟩; have n0 := (HT.out _ (bnext (Below.refl _ w).drew b1)).cell 0 rfl; have n1 := (HT.out _ (bnext (Below.refl _ w).drew b1)).cell 1 rfl; obtain ⟨a3, c3, rfl⟩ := own_shape O1)
    | (go_at_call 49; refine (HC2.out _ (bnext (Below.refl _ w).drew b1)).mono ?_; rintro e y2 ⟨u2, rfl, O2, b2⟩; obtain ⟨a4, c4, rfl⟩ := own_shape O2))
  all_goals go_wp2_with fail
  all_goals
    go_ret
    have B2 : Below w.heap.size w y2 := bnext (bnext (Below.refl _ w).drew b1) b2
    have b3 : Below y2.heap.size y2 (y2.alloc (.cells #[.slice a3 W.length c3, .slice a4 B.length c4] 78)) := (Below.refl _ y2).alloc (Nat.le_refl _) _
    have hs : w.heap.size ≤ y1.heap.size := b1.size
    exact ⟨_, _, _, rfl, ⟨At.last y2 _ 78, ⟨own_below (own_below O1 b2) b3, own_base (own_below O2 b3) hs⟩, HM.out.wlen, HM.out.blen, HM.out.wwf, HM.out.bwf⟩, bnext B2 b3, B2.size⟩

set_option maxHeartbeats 2000000 in
theorem g_same {p1 b1 p2 b2 : Nat} {v1 v2 u1 u2 : Value} {W1 B1 W2 B2 : List Int} (w : World) (M1 : GM w p1 b1 v1 v2 W1 B1) (M2 : GM w p2 b2 u1 u2 W2 B2) :
    Calls Try.prog 36 #[.pointer (some ⟨p1, 0, none⟩), .pointer (some ⟨p2, 0, none⟩)] w fun e w' => e = .returned (.bool (decide (W1 = W2) && decide (B1 = B2))) ∧ Below w.heap.size w w' := by
  obtain ⟨a1, c1, rfl⟩ := own_shape M1.ref.words
  obtain ⟨a2, c2, rfl⟩ := own_shape M1.ref.bytes
  obtain ⟨a3, c3, rfl⟩ := own_shape M2.ref.words
  obtain ⟨a4, c4, rfl⟩ := own_shape M2.ref.bytes
  have m0 := bel_cell (M1.top.cell 0 rfl)
  have m1 := bel_cell (M1.top.cell 1 rfl)
  have n0 := bel_cell (M2.top.cell 0 rfl)
  have n1 := bel_cell (M2.top.cell 1 rfl)
  have E1 := Lib.hid (fun s : Bel w => below_of (w := w) (s := s) (equal34 b1 b2 _ _ _ _ W1 W2 s.1 (own_below M1.ref.words s.2) (own_below M2.ref.words s.2) M1.wlen))
  have E2 := Lib.hid (fun s : Bel w => below_of (w := w) (s := s) (equal36 b1 b2 _ _ _ _ B1 B2 s.1 (own_below M1.ref.bytes s.2) (own_below M2.ref.bytes s.2) (Nat.le_trans M1.blen (by decide))))
  clear M1 M2
  generalize decide (B1 = B2) = y at *
  cases hx : decide (W1 = W2)
  · rw [hx] at E1
    clear hx
    go_enter Try.func36, Try.ntmps36
    go_upto_region 3 with fail
    refine region_below (by kernel_rfl) (by kernel_rfl) ?_
    repeat (go_big_quiet_step (first | (go_at_call 50; exact E1.out _) | (go_at_call 51; exact E2.out _)))
    refine wpQuiet_nil ?_
    rintro w5 ⟨s, rfl⟩
    go_wp2_with fail
    go_ret
    exact ⟨by simp, s.2⟩
  · rw [hx] at E1
    clear hx
    go_enter Try.func36, Try.ntmps36
    go_upto_region 3 with fail
    refine region_below (by kernel_rfl) (by kernel_rfl) ?_
    repeat (go_big_quiet_step (first | (go_at_call 50; exact E1.out _) | (go_at_call 51; exact E2.out _)))
    refine wpQuiet_nil ?_
    rintro w5 ⟨s, rfl⟩
    go_wp2_with fail
    go_ret
    exact ⟨by simp, s.2⟩
theorem same_nil {p b : Nat} {v1 v2 : Value} {W B : List Int} (w : World) (M : GM w p b v1 v2 W B) :
    Calls Try.prog 36 #[.pointer none, .pointer (some ⟨p, 0, none⟩)] w fun e w' => e = .returned (.bool (decide (W.length + B.length = 0))) ∧ w' = w := by
  obtain ⟨a1, c1, rfl⟩ := own_shape M.ref.words
  obtain ⟨a2, c2, rfl⟩ := own_shape M.ref.bytes
  have C1 := Lib.hid (words_any w p _ W.length c1 a1 M.top)
  have C2 := Lib.hid (bytes_any w p _ B.length c2 a2 M.top)
  have l1 := M.wlen
  have l2 := M.blen
  clear M
  generalize W.length = n at *
  generalize B.length = k at *
  go_enter Try.func36, Try.ntmps36
  go_wp2_with fail
  refine (words_nil _).mono ?_
  rintro e w1 ⟨rfl, hw1⟩
  have hw1 := hw1.symm
  subst hw1
  go_wp2_with fail
  refine (bytes_nil _).mono ?_
  rintro e w1 ⟨rfl, hw1⟩
  have hw1 := hw1.symm
  subst hw1
  go_wp2_with fail
  refine C1.out.mono ?_
  rintro e w1 ⟨rfl, hw1⟩
  have hw1 := hw1.symm
  subst hw1
  go_wp2_with fail
  refine C2.out.mono ?_
  rintro e w1 ⟨rfl, hw1⟩
  have hw1 := hw1.symm
  subst hw1
  by_cases h : n + k = 0
  · obtain rfl : n = 0 := by omega
    obtain rfl : k = 0 := by omega
    go_wp2_with fail
    go_ret
    exact ⟨rfl, rfl⟩
  · have h1 : ((n : Int) + (k : Int) == 0) = false := by simp; omega
    have h2 := Lib.hid (decide_eq_false h)
    clear h
    go_wp2_with fail
    go_ret
    exact ⟨by rw [h2.out]; rfl, rfl⟩
theorem copy_nil (w : World) : Calls Try.prog 35 #[.pointer none] w fun e w' => e = .returned (.pointer none) ∧ w' = w := by
  go_enter Try.func35, Try.ntmps35
  go_wp2_with fail
  go_ret
  exact ⟨rfl, rfl⟩
theorem word_nil (t : Int) (w : World) : Calls Try.prog 16 #[.pointer none, .int .i64 t] w fun e w' => e = .returned (.int .u64 0) ∧ Below w.heap.size w w' := by
  go_enter Try.func16, Try.ntmps16
  go_wp2_with fail
  refine (do_nil1 t 0 0 _).mono ?_
  rintro e w1 ⟨rfl, b⟩
  go_wp2_with fail
  go_ret
  exact ⟨rfl, b⟩
theorem byte_nil (t : Int) (w : World) : Calls Try.prog 23 #[.pointer none, .int .i64 t] w fun e w' => e = .returned (.int .u8 0) ∧ Below w.heap.size w w' := by
  go_enter Try.func23, Try.ntmps23
  go_wp2_with fail
  refine (do_nil5 t 0 0 _).mono ?_
  rintro e w1 ⟨rfl, b⟩
  go_wp2_with fail
  go_ret
  exact ⟨rfl, b⟩

theorem GM.of_mem {w : World} {p bw bb base : Nat} {W B : List Int} (M : IsMem w p bw bb W B) (h1 : base ≤ bw) (h2 : base ≤ bb) : GM w p base (.slice (some ⟨bw, 0, none⟩) W.length W.length) (.slice (some ⟨bb, 0, none⟩) B.length B.length) W B := by
  have l1 := M.wlen
  have l2 := M.blen
  refine ⟨M.top, ⟨?_, ?_⟩, M.wlen, M.blen, M.wwf, M.bwf⟩
  · have := own_of_block (base := base) (n := W.length) M.words h1 (by simp [u64s]) (by unfold maxLen; omega)
    simpa [u64s] using this
  · have := own_of_block (base := base) (n := B.length) M.bytes h2 (by simp [u8s]) (by unfold maxLen; omega)
    simpa [u8s] using this
theorem GM.ch {w w' : World} {p base : Nat} {v1 v2 : Value} {W B : List Int} {l : List Nat} (h : GM w p base v1 v2 W B) (c : Ch l w w') (hp : p ∉ l) (ho : ∀ k ∈ own2 v1 v2, k ∉ l) : GM w' p base v1 v2 W B := by
  have go : ∀ {e size n : Nat} {v : Value} {xs : List Value}, w.ownsRow base e size v n xs → (∀ k, v.ownBlock = some k → k ∉ l) → w'.ownsRow base e size v n xs := by
    intro e size n v xs h hk
    obtain ⟨hl2, h⟩ := h
    refine ⟨hl2, ?_⟩
    rcases h with h | ⟨g, cap, cur, hv, hg, hh, r⟩
    · exact .inl h
    · exact .inr ⟨g, cap, cur, hv, hg, (c.block g (Array.getElem?_eq_some_iff.1 hh).1 (hk g (by rw [hv]; rfl))).trans hh, r⟩
  exact ⟨h.top.ch c hp, ⟨go h.ref.words (fun k hk => ho k (own2_1 hk)), go h.ref.bytes (fun k hk => ho k (own2_2 hk))⟩, h.wlen, h.blen, h.wwf, h.bwf⟩
theorem GM.own {w : World} {p base : Nat} {v1 v2 : Value} {W B : List Int} (h : GM w p base v1 v2 W B) : ∀ k ∈ own2 v1 v2, base ≤ k ∧ k < w.heap.size := by
  intro k hk
  simp only [own2, List.mem_append, Option.mem_toList] at hk
  rcases hk with hk | hk
  · exact h.ref.words.lt k hk
  · exact h.ref.bytes.lt k hk

/-- a memory, and another one made behind it -/
structure TwoM (w0 w : World) (N p1 p2 : Nat) (v1 v2 u1 u2 : Value) (W1 B1 W2 B2 : List Int) : Prop where
  m : GM w p1 w0.heap.size v1 v2 W1 B1
  c : GM w p2 N u1 u2 W2 B2
  below : Below w0.heap.size w0 w
  hn : w0.heap.size ≤ N
  l1 : p1 < N
  l2 : N ≤ p2
  hv : ∀ k ∈ own2 v1 v2, k < N
section
variable {w0 w w' : World} {N p1 p2 : Nat} {v1 v2 u1 u2 : Value} {W1 B1 W2 B2 W' B' : List Int}
theorem TwoM.after (h : TwoM w0 w N p1 p2 v1 v2 u1 u2 W1 B1 W2 B2) (hb : Below w.heap.size w w') : TwoM w0 w' N p1 p2 v1 v2 u1 u2 W1 B1 W2 B2 := by
  obtain ⟨m, c, b, hn, l1, l2, hv⟩ := h
  exact ⟨m.below hb, c.below hb, bnext b hb, hn, l1, l2, hv⟩
theorem TwoM.stepM (h : TwoM w0 w N p1 p2 v1 v2 u1 u2 W1 B1 W2 B2) (D : GDo p1 w0.heap.size v1 v2 W' B' w w') : TwoM w0 w' N p1 p2 v1 v2 u1 u2 W' B' W2 B2 := by
  obtain ⟨m, c, b, hn, l1, l2, hv⟩ := h
  refine ⟨D.mem, c.ch D.ch (fun hk => ?_) (fun k hk hk2 => ?_), Ch.below b D.ch b.size (fun k hk => (m.own k hk).1), hn, l1, l2, hv⟩
  · have := hv _ hk; omega
  · have := hv _ hk2; have := (c.own k hk).1; omega
theorem TwoM.stepC (h : TwoM w0 w N p1 p2 v1 v2 u1 u2 W1 B1 W2 B2) (D : GDo p2 N u1 u2 W' B' w w') : TwoM w0 w' N p1 p2 v1 v2 u1 u2 W1 B1 W' B' := by
  obtain ⟨m, c, b, hn, l1, l2, hv⟩ := h
  refine ⟨m.ch D.ch (fun hk => ?_) (fun k hk hk2 => ?_), D.mem, Ch.below b D.ch b.size (fun k hk => by have := (c.own k hk).1; omega), hn, l1, l2, hv⟩
  · have := (c.own _ hk).1; omega
  · have := hv _ hk; have := (c.own k hk2).1; omega
theorem TwoM.made (m : GM w p1 w0.heap.size v1 v2 W1 B1) (b : Below w0.heap.size w0 w) (c : GM w' p2 w.heap.size u1 u2 W2 B2) (hb : Below w.heap.size w w') (l : w.heap.size ≤ p2) : TwoM w0 w' w.heap.size p1 p2 v1 v2 u1 u2 W1 B1 W2 B2 :=
  ⟨m.below hb, c, bnext b hb, b.size, m.top.lt, l, fun k hk => (m.own k hk).2⟩
end

theorem at0_ne (L : List Int) (i : Nat) (v o : Int) (h : (i : Int) ≠ o) : at0 (L.set i v) o = at0 L o := by
  unfold at0
  rw [List.length_set]
  split
  · rename_i h2
    simp at h2
    simp only [List.getD]
    rw [List.getElem?_set_ne (by omega)]
  · rfl
theorem stayW (W : List Int) (k t a b o : Int) (h : inW W k t = true → t ≠ o) : at0 (wD W k t a b) o = at0 W o := by
  unfold wD
  split
  · rename_i h2
    have h3 := h h2
    simp [inW] at h2
    exact at0_ne W _ _ o (by omega)
  · rfl
theorem stayB (B : List Int) (k t a o : Int) (h : inB B k t = true → t ≠ o) : at0 (bD B k t a) o = at0 B o := by
  unfold bD
  split
  · rename_i h2
    simp only [Bool.and_eq_true] at h2
    have h3 := h h2.1
    simp [inB] at h2
    exact at0_ne B _ _ o (by omega)
  · rfl
end Go.Proofs.Ytmdagppeeejikaa
