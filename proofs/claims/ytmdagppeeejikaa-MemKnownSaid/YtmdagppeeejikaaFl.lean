/- A region that draws its order: n operations that only read, or call what only makes memory; one that makes a variable, whenever it comes; and one behind all of them. No condition but those named. -/
import Derived.Test.YtmdagppeeejikaaQt
namespace Go.Proofs.Ytmdagppeeejikaa
open Go.RowKit
set_option linter.unusedVariables false

section
variable {P : Program} {ops : Array Oper} {md : Region.Mode} {C : World → Prop}

theorem ready_le {n : Nat} (hsz : ops.size = n + 2) (hz : ∀ i, i ≤ n → Region.waitsFor md ops (n + 1) i = true) {listed : Array Bool} {i : Nat} (hi : i ≤ n) (hun : listed.getD i true = false) :
    ∀ j ∈ Region.ready md ops listed, j ≤ n := by
  intro j hj
  obtain ⟨_, oj, hoj, hall⟩ := mem_ready.1 hj
  have hlt := (Array.getElem?_eq_some_iff.1 hoj).1
  rcases Nat.lt_or_ge n j with h | h
  · obtain rfl : j = n + 1 := by omega
    obtain ⟨o', ho', e, he, hb, hon⟩ := Region.waitsFor_spec (hz i hi)
    have : o' = oj := Option.some.inj (ho'.symm.trans hoj)
    subst this
    have h2 := hall e he hb
    rw [hon, getD_both hun] at h2
    cases h2
  · exact h

/-- behind the variable's making: a head operation may be taken first -/
theorem headQ_first2 {n i : Nat} {oi : Oper} {v : Value} {L : Array Bool → Act → Prop} (hsz : ops.size = n + 2) (hz : ∀ i, i ≤ n → Region.waitsFor md ops (n + 1) i = true)
    (hi : ops[i]? = some oi) (hsel : ∀ (j : Nat) (o : Oper) cs b, ops[j]? = some o → o.op ≠ .select cs b) (hin : i < n)
    (hL : ∀ listed a, L listed a → ∀ j ∈ Region.ready md ops listed, n ≤ j) (f : Nat) :
    ∀ listed a, listed.getD n true = true →
      (∀ j oj, ops[j]? = some oj → j ≠ i → listed.getD j true = false → (∀ e ∈ oj.after, Region.binds md e = true → e.on ≠ i) → oi.apart ops oj = true) →
      i ∈ Region.ready md ops listed → YieldsIn P ops C oi v a →
      headQ P md ops C n L f (listed.setIfInBounds i true) (a.put oi.dst v) → headQ P md ops C n L (f + 1) listed a := by
  have low : ∀ listed : Array Bool, listed.getD n true = true → listed.getD i true = false → ∀ j ∈ Region.ready md ops listed, j < n := by
    intro listed hk hun j hj
    have h1 := ready_le hsz hz (Nat.le_of_lt hin) hun j hj
    rcases Nat.lt_or_ge j n with h | h
    · exact h
    · obtain rfl : j = n := by omega
      have h0 := (mem_ready.1 hj).1
      rw [hk] at h0
      cases h0
  induction f with
  | zero =>
    intro listed a hk _ hr hy H
    refine ⟨List.ne_nil_of_mem hr, fun j hj => ?_⟩
    have hjn := low listed hk (mem_ready.1 hr).1 j hj
    refine ⟨hjn, ?_⟩
    by_cases hji : j = i
    · subst hji; exact hy.qOp hi H
    · exact absurd (hL _ _ H j (ready_mono hj hji)) (Nat.not_le_of_lt hjn)
  | succ f ih =>
    intro listed a hk hfree hr hy H
    refine ⟨List.ne_nil_of_mem hr, fun j hj => ?_⟩
    have hun := (mem_ready.1 hr).1
    have hjn := low listed hk hun j hj
    refine ⟨hjn, ?_⟩
    by_cases hji : j = i
    · subst hji; exact hy.qOp hi H
    obtain ⟨hjun, oj, hoj, hall⟩ := mem_ready.1 hj
    have hno : ∀ e ∈ oj.after, Region.binds md e = true → e.on ≠ i := by
      intro e he hb hei
      have h1 := hall e he hb
      rw [hei, getD_both hun] at h1
      exact absurd h1 (by decide)
    refine qOp_mono (fun a' h3 => ih _ a' (by rw [getD_set_ne true (by omega)]; exact hk) ?_ (ready_mono hr (Ne.symm hji)) h3.1 ?_)
      (qOp_put hoj (hfree j oj hoj hji hjun hno) (fun cs b => hsel i oi cs b hi) (fun cs b => hsel j oj cs b hoj) hy (H.2 j (ready_mono hj hji)).2)
    · intro k ok hk hki hku hkn
      refine hfree k ok hk hki ?_ hkn
      by_cases hjk : j = k
      · subst hjk; exact hjun
      · rwa [getD_set_ne true hjk] at hku
    · rw [Array.setIfInBounds_comm _ _ hji]; exact h3.2

/-- the worlds above one -/
def Up (w : World) : World → Prop := fun w' => ∃ s : Bel w, w' = s.1
theorem Up.self (w : World) : Up w w := ⟨⟨w, Below.refl _ w⟩, rfl⟩
theorem Up.below {w w' : World} (h : Up w w') : Below w.heap.size w w' := by obtain ⟨s, rfl⟩ := h; exact s.2
theorem Up.mk {w w' : World} (h : Below w.heap.size w w') : Up w w' := ⟨⟨w', h⟩, rfl⟩

/-- the world and the frame behind the making of the variable -/
def ptr (w : World) : Value := .pointer (some ⟨w.heap.size, 0, none⟩)

/-- f operations of the head are still to come, the variable is not yet made -/
def flo (P : Program) (md : Region.Mode) (ops : Array Oper) (B : World) (d : Option Tmp) (ob : Obj) (n : Nat) (L : World → World → Array Bool → Act → Prop) (f : Nat) : Array Bool → Act → Prop :=
  f.rec (fun listed a => Region.ready md ops listed = [n] ∧ ∀ w, Up B w → L w (w.alloc ob) (listed.setIfInBounds n true) (a.put d (ptr w)))
    (fun f next listed a => Region.ready md ops listed ≠ [] ∧ ∀ i, i ∈ Region.ready md ops listed →
      (i = n ∧ ∀ w, Up B w → headQ P md ops (Up (w.alloc ob)) n (L w (w.alloc ob)) (f + 1) (listed.setIfInBounds n true) (a.put d (ptr w))) ∨
      (i < n ∧ qOp P ops (Up B) i (next (listed.setIfInBounds i true)) a))

theorem flo_first {B : World} {d : Option Tmp} {ob : Obj} {n i : Nat} {oi on : Oper} {v : Value} {L : World → World → Array Bool → Act → Prop} (hsz : ops.size = n + 2) (hz : ∀ i, i ≤ n → Region.waitsFor md ops (n + 1) i = true)
    (hi : ops[i]? = some oi) (hon : ops[n]? = some on) (hd : on.dst = d) (hna : ∀ e ∈ on.after, Region.binds md e = true → e.on ≠ i) (hap : oi.apart ops on = true)
    (hsel : ∀ (j : Nat) (o : Oper) cs b, ops[j]? = some o → o.op ≠ .select cs b) (hin : i < n)
    (hL : ∀ w w' listed a, L w w' listed a → ∀ j ∈ Region.ready md ops listed, n ≤ j) (f : Nat) :
    ∀ listed a, listed.size = n + 2 → listed.getD n true = false →
      (∀ j oj, ops[j]? = some oj → j ≠ i → listed.getD j true = false → (∀ e ∈ oj.after, Region.binds md e = true → e.on ≠ i) → oi.apart ops oj = true) →
      i ∈ Region.ready md ops listed → (∀ w, Up B w → YieldsIn P ops (Up w) oi v a) →
      flo P md ops B d ob n L f (listed.setIfInBounds i true) (a.put oi.dst v) → flo P md ops B d ob n L (f + 1) listed a := by
  obtain ⟨ap1, ap2, ap3⟩ := Oper.apart_spec hap
  have upB : ∀ w, Up B w → Up B (w.alloc ob) := fun w h => Up.mk (h.below.alloc h.below.size _)
  have Ykeep : ∀ (C : World → Prop) a, YieldsIn P ops C oi v a → ∀ u, YieldsIn P ops C oi v (a.put d u) := fun C a hy u =>
    hy.of_same (execOp_put oi (fun cs b => hsel i oi cs b hi) a d u (by rw [← hd]; exact ap3)) (wanted_put oi a d u (by rw [← hd]; exact ap3))
  have pc : ∀ (a : Act) u, (a.put oi.dst v).put d u = (a.put d u).put oi.dst v := fun a u => Act.put_comm a v u (by rw [← hd]; exact ap2)
  have free' : ∀ (listed : Array Bool), (∀ j oj, ops[j]? = some oj → j ≠ i → listed.getD j true = false → (∀ e ∈ oj.after, Region.binds md e = true → e.on ≠ i) → oi.apart ops oj = true) → ∀ x,
      (∀ j oj, ops[j]? = some oj → j ≠ i → (listed.setIfInBounds x true).getD j true = false → (∀ e ∈ oj.after, Region.binds md e = true → e.on ≠ i) → oi.apart ops oj = true) := by
    intro listed hf x k ok hk hki hku hkn
    refine hf k ok hk hki ?_ hkn
    by_cases hxk : x = k
    · subst hxk
      rcases Nat.lt_or_ge x listed.size with h' | h'
      · simp [h'] at hku
      · simp at hku
    · rwa [getD_set_ne true hxk] at hku
  have setn : ∀ (listed : Array Bool), listed.size = n + 2 → (listed.setIfInBounds n true).getD n true = true := by
    intro listed hs
    simp [hs]
  induction f with
  | zero =>
    intro listed a hs hk hfree hr hy H
    refine ⟨List.ne_nil_of_mem hr, fun j hj => ?_⟩
    have hjn := ready_le hsz hz (Nat.le_of_lt hin) (mem_ready.1 hr).1 j hj
    by_cases hjk : j = n
    · subst hjk
      refine .inl ⟨rfl, fun w hw => ?_⟩
      refine headQ_first2 hsz hz hi hsel hin (hL w _) 0 _ _ (setn _ hs) (free' _ hfree _) (ready_mono hr (by omega)) (Ykeep _ _ (hy _ (upB w hw)) _) ?_
      have h2 := H.2 w hw
      rw [pc, Array.setIfInBounds_comm _ _ (by omega)] at h2
      exact h2
    · refine .inr ⟨by omega, ?_⟩
      by_cases hji : j = i
      · subst hji; exact (hy B (Up.self B)).qOp hi H
      · have := ready_mono hj hji
        rw [H.1] at this
        simp at this
        omega
  | succ f ih =>
    intro listed a hs hk hfree hr hy H
    refine ⟨List.ne_nil_of_mem hr, fun j hj => ?_⟩
    have hun := (mem_ready.1 hr).1
    have hjn := ready_le hsz hz (Nat.le_of_lt hin) hun j hj
    by_cases hjk : j = n
    · subst hjk
      refine .inl ⟨rfl, fun w hw => ?_⟩
      refine headQ_first2 hsz hz hi hsel hin (hL w _) (f + 1) _ _ (setn _ hs) (free' _ hfree _) (ready_mono hr (by omega)) (Ykeep _ _ (hy _ (upB w hw)) _) ?_
      rcases H.2 j (ready_mono hj (by omega)) with ⟨_, h2⟩ | ⟨h2, _⟩
      · have h3 := h2 w hw
        rw [pc, Array.setIfInBounds_comm _ _ (by omega)] at h3
        exact h3
      · omega
    · refine .inr ⟨by omega, ?_⟩
      by_cases hji : j = i
      · subst hji; exact (hy B (Up.self B)).qOp hi H
      obtain ⟨hjun, oj, hoj, hall⟩ := mem_ready.1 hj
      have hno : ∀ e ∈ oj.after, Region.binds md e = true → e.on ≠ i := by
        intro e he hb hei
        have h1 := hall e he hb
        rw [hei, getD_both hun] at h1
        exact absurd h1 (by decide)
      have hapj := hfree j oj hoj hji hjun hno
      obtain ⟨_, _, aj3⟩ := Oper.apart_spec hapj
      rcases H.2 j (ready_mono hj hji) with ⟨h2, _⟩ | ⟨_, h2⟩
      · omega
      have h4 := qOp_put hoj hapj (fun cs b => hsel i oi cs b hi) (fun cs b => hsel j oj cs b hoj) (hy B (Up.self B)) h2
      have keepj : ∀ (C : World → Prop) (a : Act), YieldsIn P ops C oi v a → ∀ u, YieldsIn P ops C oi v (a.put oj.dst u) := fun C a hy u =>
        hy.of_same (execOp_put oi (fun cs b => hsel i oi cs b hi) a oj.dst u aj3) (wanted_put oi a oj.dst u aj3)
      have h5 : qOp P ops (Up B) j (fun a' => (∀ w, Up B w → YieldsIn P ops (Up w) oi v a') ∧ flo P md ops B d ob n L f ((listed.setIfInBounds i true).setIfInBounds j true) (a'.put oi.dst v)) a := by
        unfold qOp at h4 ⊢
        simp only [hoj] at h4 ⊢
        split
        · rename_i hw
          rw [if_pos hw] at h4
          obtain ⟨u, hu, hn⟩ := h4
          exact ⟨u, hu, fun w hw' => keepj _ _ (hy w hw') u, hn.2⟩
        · rename_i hw
          rw [if_neg hw] at h4
          exact ⟨fun w hw' => keepj _ _ (hy w hw') _, h4.2⟩
      refine qOp_mono (fun a' h3 => ih _ a' (by simp [hs]) (by rw [getD_set_ne true (by omega)]; exact hk) (free' _ hfree _) (ready_mono hr (Ne.symm hji)) h3.1 ?_) h5
      rw [Array.setIfInBounds_comm _ _ hji]; exact h3.2

theorem flo_run {B : World} {d : Option Tmp} {ob : Obj} {n : Nat} {on : Oper} {L : World → World → Array Bool → Act → Prop} {Q' : Exit → Act → World → Prop} (hon : ops[n]? = some on) (hg : on.guard = none)
    (hal : ∀ (a : Act) (w : World) (K : Act → World → Prop), K (a.put d (ptr w)) (w.alloc ob) → on.wp P a w K Q')
    (hL : ∀ w, Up B w → ∀ listed a w', Up (w.alloc ob) w' → L w (w.alloc ob) listed a → wpAny P md ops Q' 1 listed a w') (f : Nat) :
    ∀ listed a w, Up B w → flo P md ops B d ob n L f listed a → wpAny P md ops Q' (f + 2) listed a w := by
  have step : ∀ (a : Act) (w : World) (K : Act → World → Prop), K (a.put d (ptr w)) (w.alloc ob) → wpOp P ops Q' n K a w := by
    intro a w K h
    unfold wpOp
    simp only [hon]
    rw [if_pos (by unfold Region.wanted; simp [hg])]
    exact .inl (hal a w K h)
  induction f with
  | zero =>
    intro listed a w hw h
    refine ⟨fun h0 => (by rw [h.1] at h0; cases h0), fun i hi => ?_⟩
    rw [h.1] at hi
    obtain rfl : i = n := by simpa using hi
    exact step _ _ _ (hL w hw _ _ _ (Up.self _) (h.2 w hw))
  | succ f ih =>
    intro listed a w hw h
    refine ⟨fun h0 => absurd h0 h.1, fun i hi => ?_⟩
    rcases h.2 i hi with ⟨rfl, h2⟩ | ⟨_, h2⟩
    · refine step _ _ _ ?_
      exact headQ_run (C := Up (w.alloc ob)) (g := 1) (fun listed a w' hw' h => hL w hw listed a w' hw' h) (f + 1) _ _ _ (Up.self _) (h2 w hw)
    · exact wpOp_of_qOp hw (fun a' w' hw' h' => ih _ a' w' hw' h') h2

/-- the operations of the list, one behind the other, each with one value whatever memory was made -/
def qxs (P : Program) (ops : Array Oper) (B : World) (A : Act) : List Oper → Act → Prop
  | [], a => a = A
  | o :: rest, a => ∃ v, (∀ w, Up B w → YieldsIn P ops (Up w) o v a) ∧ qxs P ops B A rest (a.put o.dst v)

def lexF (md : Region.Mode) (ops : Array Oper) (n : Nat) : Nat → Nat → Array Bool → Bool
  | 0, _, listed => decide (Region.ready md ops listed = [n]) && Region.seqB md ops 1 (n + 1) (listed.setIfInBounds n true)
  | f + 1, k, listed => (Region.ready md ops listed).contains k && Region.free md ops listed k && lexF md ops n f (k + 1) (listed.setIfInBounds k true)

theorem flo_lex {B : World} {d : Option Tmp} {ob : Obj} {n : Nat} {on : Oper} {A : Act} (hsz : ops.size = n + 2) (hz : ∀ i, i ≤ n → Region.waitsFor md ops (n + 1) i = true)
    (hon : ops[n]? = some on) (hd : on.dst = d) (hna : ∀ e ∈ on.after, Region.binds md e = false) (hsel : Region.noSelect ops = true) (l : List Oper) :
    ∀ (k : Nat) (listed : Array Bool) (a : Act), (∀ j, j < l.length → l[j]? = ops[k + j]?) → k + l.length = n → listed.size = n + 2 → listed.getD n true = false →
    lexF md ops n l.length k listed = true → qxs P ops B A l a →
    flo P md ops B d ob n (fun w _ listed' a' => Region.seqB md ops 1 (n + 1) listed' = true ∧ a' = A.put d (ptr w)) l.length listed a := by
  induction l with
  | nil =>
    intro k listed a _ hk hs hn hB h
    simp only [List.length_nil, lexF, Bool.and_eq_true, decide_eq_true_eq] at hB
    have h' : a = A := h
    exact ⟨hB.1, fun w hw => ⟨hB.2, by rw [h']⟩⟩
  | cons o l ih =>
    intro k listed a hl hk hs hn hB h
    have h0 : ops[k]? = some o := by simpa using (hl 0 (by simp)).symm
    simp only [List.length_cons, lexF, Bool.and_eq_true] at hB
    have hkn : k < n := by simp only [List.length_cons] at hk; omega
    have hr : k ∈ Region.ready md ops listed := by simpa using hB.1.1
    obtain ⟨v, hy, hK⟩ := h
    have hno : ∀ e ∈ on.after, Region.binds md e = true → e.on ≠ k := fun e he hb => by rw [hna e he] at hb; cases hb
    have hap := Region.free_spec h0 hB.1.2 n on hon (by omega) hn hno
    refine flo_first hsz hz h0 hon hd hno hap (Region.noSelect_spec hsel) hkn ?_ l.length listed a hs hn (Region.free_spec h0 hB.1.2) hr hy ?_
    · intro w w' listed a hL j hj
      have := seqB_ready hL.1 j hj
      omega
    · refine ih (k + 1) _ _ ?_ (by simp only [List.length_cons] at hk; omega) (by simp [hs]) (by rw [getD_set_ne true (by omega)]; exact hn) hB.2 hK
      intro j hj
      have := hl (j + 1) (by simp; omega)
      simpa [Nat.add_assoc, Nat.add_comm 1 j] using this

theorem put_getD_ne (a : Act) (x : Option Tmp) (v : Value) (d : Nat) (h : x ≠ some d) : (a.put x v).tmps.getD d undef = a.tmps.getD d undef := by
  cases x with
  | none => rfl
  | some e =>
    have : e ≠ d := fun h' => h (by rw [h'])
    simp [Act.put, Array.getElem?_setIfInBounds_ne this]
theorem put_getD_eq (a : Act) (v : Value) (d : Nat) (h : d < a.tmps.size) : (a.put (some d) v).tmps.getD d undef = v := by
  simp [Act.put, h]
theorem put_size (a : Act) (x : Option Tmp) (v : Value) : (a.put x v).tmps.size = a.tmps.size := by
  cases x <;> simp [Act.put]

theorem quiet_stay {A : Act} {d : Nat} (l : List Oper) : ∀ (a : Act), wpQuiet P ops C (fun a' => a' = A) l a → (∀ o ∈ l, o.dst ≠ some d) → A.tmps.getD d undef = a.tmps.getD d undef := by
  induction l with
  | nil => intro a h _; have h' : a = A := h; rw [h']
  | cons o l ih =>
    intro a h hd
    unfold wpQuiet at h
    split at h
    · obtain ⟨v, _, h⟩ := h
      rw [ih _ h (fun x hx => hd x (List.mem_cons_of_mem _ hx)), put_getD_ne _ _ _ _ (hd o (List.mem_cons_self ..))]
    · rw [ih _ h (fun x hx => hd x (List.mem_cons_of_mem _ hx)), put_getD_ne _ _ _ _ (hd o (List.mem_cons_self ..))]

def dstsB (N : Nat) : List Oper → Bool
  | [] => true
  | o :: l => (match o.dst with | some d => decide (d < N) && l.all (fun x => decide (x.dst ≠ some d)) | none => false) && dstsB N l

theorem qxs_of {B : World} {A : Act} (l : List Oper) : ∀ (a : Act), dstsB a.tmps.size l = true → (∀ x, Up B x → wpQuiet P ops (Up x) (fun a' => a' = A) l a) → qxs P ops B A l a := by
  induction l with
  | nil => intro a _ h; exact h B (Up.self B)
  | cons o l ih =>
    intro a hd h
    simp only [dstsB, Bool.and_eq_true] at hd
    obtain ⟨hd1, hd2⟩ := hd
    cases hdo : o.dst with
    | none => rw [hdo] at hd1; cases hd1
    | some d =>
      rw [hdo] at hd1
      simp only [Bool.and_eq_true, decide_eq_true_eq, List.all_eq_true] at hd1
      obtain ⟨hlt, hne⟩ := hd1
      unfold wpQuiet at h
      by_cases hw : Region.wanted o (yielded ops a.tmps) = true
      · have key : ∀ x, Up B x → (∀ w, Up x w → o.quietAt P a (Up x) w (A.tmps.getD d undef)) ∧ wpQuiet P ops (Up x) (fun a' => a' = A) l (a.put o.dst (A.tmps.getD d undef)) := by
          intro x hx
          have h1 := h x hx
          rw [if_pos hw] at h1
          obtain ⟨v, h2, h3⟩ := h1
          have e := quiet_stay l _ h3 hne
          rw [hdo, put_getD_eq _ _ _ hlt] at e
          rw [e]
          exact ⟨h2, h3⟩
        refine ⟨A.tmps.getD d undef, fun x hx => .inl ⟨hw, (key x hx).1⟩, ih _ (by rw [put_size]; exact hd2) fun x hx => (key x hx).2⟩
      · refine ⟨undef, fun x hx => .inr ⟨by simpa using hw, rfl⟩, ih _ (by rw [put_size]; exact hd2) fun x hx => ?_⟩
        have h1 := h x hx
        rw [if_neg hw] at h1
        exact h1

def floatB (md : Region.Mode) (ops : Array Oper) (n : Nat) : Bool :=
  decide (ops.size = n + 2) && ((List.range (n + 1)).all fun i => Region.waitsFor md ops (n + 1) i) && ((ops[n]?).map fun o => o.after.all fun e => !Region.binds md e).getD false && Region.noSelect ops &&
    lexF md ops n n 0 (Array.replicate ops.size false)

/-- n operations that only read, or call what only makes memory; the making of a variable; one behind all of them -/
theorem region_float {id : Nat} {Q : Exit → Act → World → Prop} {a A : Act} {w : World} {l : List Oper} {n d : Nat} {on : Oper} {ob : Obj} (hm : P.follows .mixedOrders = true) (hB : floatB .any l.toArray n = true)
    (hD : dstsB a.tmps.size (l.take n) = true) (hon : l[n]? = some on) (hg : on.guard = none) (hd : on.dst = some d)
    (hal : ∀ (a : Act) (w : World) (K : Act → World → Prop), K (a.put (some d) (ptr w)) (w.alloc ob) → on.wp P a w K Q)
    (h : ∀ x, Below w.heap.size w x → wpQuiet P l.toArray (fun w' => ∃ s : Bel x, w' = s.1) (fun a' => a' = A) (l.take n) a)
    (hlast : ∀ g x, Below w.heap.size w x → w.heap.size ≤ g → g < x.heap.size → x.heap[g]? = some ob → wpList P l.toArray Q (l.drop (n + 1)) (A.put (some d) (.pointer (some ⟨g, 0, none⟩))) x) :
    (Code.region id l.toArray true).wp P Q a w := by
  simp only [floatB, Bool.and_eq_true, decide_eq_true_eq, List.all_eq_true, List.mem_range] at hB
  obtain ⟨⟨⟨⟨hsz, hz⟩, hna⟩, hsel⟩, hlex⟩ := hB
  have hon' : l.toArray[n]? = some on := by simpa using hon
  have hll : l.length = n + 2 := by simpa using hsz
  have htl : (l.take n).length = n := by simp; omega
  rw [hon'] at hna
  simp only [Option.map_some, Option.getD_some, Array.all_eq_true', Bool.not_eq_true'] at hna
  refine wp_region_any hm ?_
  have hb0 : Below w.heap.size w { w with drawn := w.drawn + 1 } := (Below.refl _ w).drew
  have X := qxs_of (P := P) (ops := l.toArray) (B := { w with drawn := w.drawn + 1 }) (A := A) (l.take n) a hD (fun x hx => h x (hb0.trans (hx.below.mono (Nat.le_refl _))))
  have F := flo_lex (P := P) (md := .any) (ob := ob) hsz (fun i hi => hz i (by omega)) hon' hd hna hsel (l.take n) 0 (Array.replicate l.toArray.size false) a (fun j hj => by
    have hj' : j < n := by rw [htl] at hj; exact hj
    simp [hj']) (by rw [htl]; omega) (by simpa using hll) (by simp [hll]) (by rw [htl]; exact hlex) X
  have R := flo_run (P := P) (md := .any) (Q' := Q) hon' hg hal (fun w1 hw1 listed a' x hx hL => by
    obtain ⟨hL1, rfl⟩ := hL
    have hdl : l.drop (n + 1) = [l[n + 1]] := by
      rw [List.drop_eq_getElem_cons (by omega), List.drop_eq_nil_of_le (by omega)]
    have hb1 : Below w.heap.size w w1 := hb0.trans (hw1.below.mono (Nat.le_refl _))
    have hb2 : Below w.heap.size w (w1.alloc ob) := hb1.alloc hb1.size _
    have hb3 : Below w.heap.size w x := hb2.trans (hx.below.mono hb2.size)
    have hx1 := hx.below.size
    have hx2 : (w1.alloc ob).heap.size = w1.heap.size + 1 := by simp
    have hH := hlast w1.heap.size x hb3 hb1.size (by omega) (by
      rw [hx.below.block _ (by omega)]
      exact heap_alloc_new w1 ob)
    rw [hdl] at hH
    refine wpAny_of_seq [l[n + 1]] (n + 1) listed _ x (fun j => ?_) hL1 hH
    cases j with
    | zero => simp
    | succ j => simp; omega) _ _ _ _ (Up.self _) F
  have e : (l.take n).length + 2 = l.toArray.size := by rw [htl]; simp; omega
  rw [e] at R
  exact R
end
end Go.Proofs.Ytmdagppeeejikaa
