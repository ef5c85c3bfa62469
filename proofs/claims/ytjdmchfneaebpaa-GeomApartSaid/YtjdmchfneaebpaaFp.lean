/- A region that draws its order: n operations that only read, or call what only makes memory; one that makes a row of cells out of values that stay, when it comes; and two behind all of them. No condition but those named. -/
import Derived.Test.YtjdmchfneaebpaaFl
namespace Go.Proofs.Ytjdmchfneaebpaa
open Go.RowKit
set_option linter.unusedVariables false

section
variable {P : Program} {ops : Array Oper} {md : Region.Mode} {C : World → Prop}

/-- what is listed has all listed that it waits for -/
def Closed (md : Region.Mode) (ops : Array Oper) (listed : Array Bool) : Prop :=
  ∀ j oj, ops[j]? = some oj → listed.getD j true = true → ∀ e ∈ oj.after, Region.binds md e = true → listed.getD e.on false = true
/-- j waits for i, by way of others -/
def wst (md : Region.Mode) (ops : Array Oper) : Nat → Nat → Nat → Bool
  | 0, j, i => Region.waitsFor md ops j i
  | f + 1, j, i => Region.waitsFor md ops j i || (List.range ops.size).any fun k => Region.waitsFor md ops j k && wst md ops f k i
theorem dir_no {listed : Array Bool} (hc : Closed md ops listed) {j i : Nat} (hw : Region.waitsFor md ops j i = true) (hun : listed.getD i true = false) : listed.getD j true = false ∧ j ∉ Region.ready md ops listed := by
  obtain ⟨o', ho', e, he, hb, hon⟩ := Region.waitsFor_spec hw
  have hf : listed.getD e.on false = false := by rw [hon]; exact getD_both hun
  refine ⟨?_, fun hj => ?_⟩
  · cases h : listed.getD j true with
    | false => rfl
    | true => have := hc j o' ho' h e he hb; rw [hf] at this; cases this
  · obtain ⟨_, oj, hoj, hall⟩ := mem_ready.1 hj
    have : o' = oj := Option.some.inj (ho'.symm.trans hoj)
    subst this
    have h2 := hall e he hb
    rw [hf] at h2
    cases h2
theorem wst_no {listed : Array Bool} (hc : Closed md ops listed) (f : Nat) : ∀ {j i : Nat}, wst md ops f j i = true → listed.getD i true = false → listed.getD j true = false ∧ j ∉ Region.ready md ops listed := by
  induction f with
  | zero => intro j i hw hun; exact dir_no hc hw hun
  | succ f ih =>
    intro j i hw hun
    unfold wst at hw
    rcases Bool.or_eq_true _ _ |>.mp hw with h | h
    · exact dir_no hc h hun
    · obtain ⟨k, _, hk⟩ := List.any_eq_true.1 h
      obtain ⟨h1, h2⟩ := Bool.and_eq_true _ _ |>.mp hk
      exact dir_no hc h1 (ih h2 hun).1
theorem closed_set {listed : Array Bool} (hc : Closed md ops listed) {j : Nat} (hj : j ∈ Region.ready md ops listed) : Closed md ops (listed.setIfInBounds j true) := by
  have keep : ∀ y, listed.getD y false = true → (listed.setIfInBounds j true).getD y false = true := by
    intro y hy
    by_cases h : j = y
    · subst h
      rcases Nat.lt_or_ge j listed.size with h' | h'
      · simp [h']
      · simp [h'] at hy
    · rw [getD_set_ne false h]; exact hy
  obtain ⟨_, oj, hoj, hall⟩ := mem_ready.1 hj
  intro x ox hox hx e he hb
  by_cases h : j = x
  · subst h
    have : oj = ox := Option.some.inj (hoj.symm.trans hox)
    subst this
    exact keep _ (hall e he hb)
  · rw [getD_set_ne true h] at hx
    exact keep _ (hc x ox hox hx e he hb)
theorem closed_none : Closed md ops (Array.replicate ops.size false) := by
  intro j oj hoj hj
  have := (Array.getElem?_eq_some_iff.1 hoj).1
  simp [this] at hj

theorem rdy_le {n : Nat} (hsz : ops.size = n + 3) (hz : ∀ i, i ≤ n → wst md ops 6 (n + 1) i = true) (hz2 : Region.waitsFor md ops (n + 2) (n + 1) = true) {listed : Array Bool} {i : Nat} (hi : i ≤ n) (hun : listed.getD i true = false) (hk1 : Closed md ops listed) :
    ∀ j ∈ Region.ready md ops listed, j ≤ n := by
  intro j hj
  obtain ⟨_, oj, hoj, hall⟩ := mem_ready.1 hj
  have hlt := (Array.getElem?_eq_some_iff.1 hoj).1
  rcases Nat.lt_or_ge n j with h | h
  · rcases (by omega : j = n + 1 ∨ j = n + 2) with rfl | rfl
    · exact ((wst_no hk1 6 (hz i hi) hun).2 hj).elim
    · exact ((dir_no hk1 hz2 (wst_no hk1 6 (hz i hi) hun).1).2 hj).elim
  · exact h

/-- behind the variable's making: a head operation may be taken first -/
theorem headQ_first3 {n i : Nat} {oi : Oper} {v : Value} {L : Array Bool → Act → Prop} (hsz : ops.size = n + 3) (hz : ∀ i, i ≤ n → wst md ops 6 (n + 1) i = true) (hz2 : Region.waitsFor md ops (n + 2) (n + 1) = true)
    (hi : ops[i]? = some oi) (hsel : ∀ (j : Nat) (o : Oper) cs b, ops[j]? = some o → o.op ≠ .select cs b) (hin : i < n)
    (hL : ∀ listed a, L listed a → ∀ j ∈ Region.ready md ops listed, n ≤ j) (f : Nat) :
    ∀ listed a, listed.getD n true = true → Closed md ops listed →
      (∀ j oj, ops[j]? = some oj → j ≠ i → listed.getD j true = false → (∀ e ∈ oj.after, Region.binds md e = true → e.on ≠ i) → oi.apart ops oj = true) →
      i ∈ Region.ready md ops listed → YieldsIn P ops C oi v a →
      headQ P md ops C n L f (listed.setIfInBounds i true) (a.put oi.dst v) → headQ P md ops C n L (f + 1) listed a := by
  have low : ∀ listed : Array Bool, listed.getD n true = true → Closed md ops listed → listed.getD i true = false → ∀ j ∈ Region.ready md ops listed, j < n := by
    intro listed hk hk1 hun j hj
    have h1 := rdy_le hsz hz hz2 (Nat.le_of_lt hin) hun hk1 j hj
    rcases Nat.lt_or_ge j n with h | h
    · exact h
    · obtain rfl : j = n := by omega
      have h0 := (mem_ready.1 hj).1
      rw [hk] at h0
      cases h0
  induction f with
  | zero =>
    intro listed a hk hk1 _ hr hy H
    refine ⟨List.ne_nil_of_mem hr, fun j hj => ?_⟩
    have hjn := low listed hk hk1 (mem_ready.1 hr).1 j hj
    refine ⟨hjn, ?_⟩
    by_cases hji : j = i
    · subst hji; exact hy.qOp hi H
    · exact absurd (hL _ _ H j (ready_mono hj hji)) (Nat.not_le_of_lt hjn)
  | succ f ih =>
    intro listed a hk hk1 hfree hr hy H
    refine ⟨List.ne_nil_of_mem hr, fun j hj => ?_⟩
    have hun := (mem_ready.1 hr).1
    have hjn := low listed hk hk1 hun j hj
    refine ⟨hjn, ?_⟩
    by_cases hji : j = i
    · subst hji; exact hy.qOp hi H
    obtain ⟨hjun, oj, hoj, hall⟩ := mem_ready.1 hj
    have hno : ∀ e ∈ oj.after, Region.binds md e = true → e.on ≠ i := by
      intro e he hb hei
      have h1 := hall e he hb
      rw [hei, getD_both hun] at h1
      exact absurd h1 (by decide)
    refine qOp_mono (fun a' h3 => ih _ a' (by rw [getD_set_ne true (by omega)]; exact hk) (closed_set hk1 hj) ?_ (ready_mono hr (Ne.symm hji)) h3.1 ?_)
      (qOp_put hoj (hfree j oj hoj hji hjun hno) (fun cs b => hsel i oi cs b hi) (fun cs b => hsel j oj cs b hoj) hy (H.2 j (ready_mono hj hji)).2)
    · intro k ok hk hki hku hkn
      refine hfree k ok hk hki ?_ hkn
      by_cases hjk : j = k
      · subst hjk; exact hjun
      · rwa [getD_set_ne true hjk] at hku
    · rw [Array.setIfInBounds_comm _ _ hji]; exact h3.2

/-- f operations of the head are still to come, the row is not yet made; G: what its making reads is there -/
def fli (P : Program) (md : Region.Mode) (ops : Array Oper) (B : World) (d : Option Tmp) (val : World → Value) (ob : Obj) (n : Nat) (G : Act → Prop) (L : World → World → Array Bool → Act → Prop) (f : Nat) : Array Bool → Act → Prop :=
  f.rec (fun listed a => Region.ready md ops listed = [n] ∧ G a ∧ ∀ w, Up B w → L w (w.alloc ob) (listed.setIfInBounds n true) (a.put d (val w)))
    (fun f next listed a => Region.ready md ops listed ≠ [] ∧ ∀ i, i ∈ Region.ready md ops listed →
      (i = n ∧ G a ∧ ∀ w, Up B w → headQ P md ops (Up (w.alloc ob)) n (L w (w.alloc ob)) (f + 1) (listed.setIfInBounds n true) (a.put d (val w))) ∨
      (i < n ∧ qOp P ops (Up B) i (next (listed.setIfInBounds i true)) a))

theorem fli_first {B : World} {d : Option Tmp} {val : World → Value} {ob : Obj} {n i : Nat} {G : Act → Prop} {oi on : Oper} {v : Value} {L : World → World → Array Bool → Act → Prop} (hsz : ops.size = n + 3) (hz : ∀ i, i ≤ n → wst md ops 6 (n + 1) i = true) (hz2 : Region.waitsFor md ops (n + 2) (n + 1) = true)
    (hi : ops[i]? = some oi) (hon : ops[n]? = some on) (hd : on.dst = d) (hap : wst md ops 6 n i = true ∨ (oi.apart ops on = true ∧ ∀ a v, G (a.put oi.dst v) → G a))
    (hsel : ∀ (j : Nat) (o : Oper) cs b, ops[j]? = some o → o.op ≠ .select cs b) (hin : i < n)
    (hL : ∀ w w' listed a, L w w' listed a → ∀ j ∈ Region.ready md ops listed, n ≤ j) (f : Nat) :
    ∀ listed a, listed.size = n + 3 → listed.getD n true = false → Closed md ops listed →
      (∀ j oj, ops[j]? = some oj → j ≠ i → listed.getD j true = false → (∀ e ∈ oj.after, Region.binds md e = true → e.on ≠ i) → oi.apart ops oj = true) →
      i ∈ Region.ready md ops listed → (∀ w, Up B w → YieldsIn P ops (Up w) oi v a) →
      fli P md ops B d val ob n G L f (listed.setIfInBounds i true) (a.put oi.dst v) → fli P md ops B d val ob n G L (f + 1) listed a := by
  have no : ∀ listed : Array Bool, Closed md ops listed → listed.getD i true = false → n ∈ Region.ready md ops listed → wst md ops 6 n i = true → False := fun listed hc hun hj hw => (wst_no hc 6 hw hun).2 hj
  have upB : ∀ w, Up B w → Up B (w.alloc ob) := fun w h => Up.mk (h.below.alloc h.below.size _)
  have Ykeep : oi.apart ops on = true → ∀ (C : World → Prop) a, YieldsIn P ops C oi v a → ∀ u, YieldsIn P ops C oi v (a.put d u) := fun hap C a hy u =>
    hy.of_same (execOp_put oi (fun cs b => hsel i oi cs b hi) a d u (by rw [← hd]; exact (Oper.apart_spec hap).2.2)) (wanted_put oi a d u (by rw [← hd]; exact (Oper.apart_spec hap).2.2))
  have pc : oi.apart ops on = true → ∀ (a : Act) u, (a.put oi.dst v).put d u = (a.put d u).put oi.dst v := fun hap a u => Act.put_comm a v u (by rw [← hd]; exact (Oper.apart_spec hap).2.1)
  have free' : ∀ (listed : Array Bool), (∀ j oj, ops[j]? = some oj → j ≠ i → listed.getD j true = false → (∀ e ∈ oj.after, Region.binds md e = true → e.on ≠ i) → oi.apart ops oj = true) → ∀ x,
      (∀ j oj, ops[j]? = some oj → j ≠ i → (listed.setIfInBounds x true).getD j true = false → (∀ e ∈ oj.after, Region.binds md e = true → e.on ≠ i) → oi.apart ops oj = true) := by
    intro listed hf x k ok hk hki hku hkn
    refine hf k ok hk hki ?_ hkn
    by_cases hxk : x = k
    · subst hxk
      rcases Nat.lt_or_ge x listed.size with h' | h'
      · simp [h'] at hku
      · simp at hku
    · rwa [getD_set_ne true hxk] at hku
  have setn : ∀ (listed : Array Bool), listed.size = n + 3 → (listed.setIfInBounds n true).getD n true = true := by
    intro listed hs
    simp [hs]
  induction f with
  | zero =>
    intro listed a hs hk hk1 hfree hr hy H
    refine ⟨List.ne_nil_of_mem hr, fun j hj => ?_⟩
    have hjn := rdy_le hsz hz hz2 (Nat.le_of_lt hin) (mem_ready.1 hr).1 hk1 j hj
    by_cases hjk : j = n
    · subst hjk
      rcases hap with hw | ⟨hap, hG⟩
      · exact (no _ hk1 (mem_ready.1 hr).1 hj hw).elim
      refine .inl ⟨rfl, hG _ _ H.2.1, fun w hw => ?_⟩
      refine headQ_first3 hsz hz hz2 hi hsel hin (hL w _) 0 _ _ (setn _ hs) (closed_set hk1 hj) (free' _ hfree _) (ready_mono hr (by omega)) (Ykeep hap _ _ (hy _ (upB w hw)) _) ?_
      have h2 := H.2.2 w hw
      rw [pc hap, Array.setIfInBounds_comm _ _ (by omega)] at h2
      exact h2
    · refine .inr ⟨by omega, ?_⟩
      by_cases hji : j = i
      · subst hji; exact (hy B (Up.self B)).qOp hi H
      · have := ready_mono hj hji
        rw [H.1] at this
        simp at this
        omega
  | succ f ih =>
    intro listed a hs hk hk1 hfree hr hy H
    refine ⟨List.ne_nil_of_mem hr, fun j hj => ?_⟩
    have hun := (mem_ready.1 hr).1
    have hjn := rdy_le hsz hz hz2 (Nat.le_of_lt hin) hun hk1 j hj
    by_cases hjk : j = n
    · subst hjk
      rcases hap with hw | ⟨hap, hG⟩
      · exact (no _ hk1 (mem_ready.1 hr).1 hj hw).elim
      rcases H.2 j (ready_mono hj (by omega)) with ⟨_, hg2, h2⟩ | ⟨h2, _⟩
      · refine .inl ⟨rfl, hG _ _ hg2, fun w hw => ?_⟩
        refine headQ_first3 hsz hz hz2 hi hsel hin (hL w _) (f + 1) _ _ (setn _ hs) (closed_set hk1 hj) (free' _ hfree _) (ready_mono hr (by omega)) (Ykeep hap _ _ (hy _ (upB w hw)) _) ?_
        have h3 := h2 w hw
        rw [pc hap, Array.setIfInBounds_comm _ _ (by omega)] at h3
        exact h3
      · omega
    · refine .inr ⟨by omega, ?_⟩
      by_cases hji : j = i
      · subst hji; exact (hy B (Up.self B)).qOp hi H
      obtain ⟨hjun, oj, hoj, hall⟩ := mem_ready.1 hj
      have hno : ∀ e ∈ oj.after, Region.binds md e = true → e.on ≠ i := by
        intro e he hb hei
        have h1 := hall e he hb
        rw [hei, getD_both hun] at h1
        exact absurd h1 (by decide)
      have hapj := hfree j oj hoj hji hjun hno
      obtain ⟨_, _, aj3⟩ := Oper.apart_spec hapj
      rcases H.2 j (ready_mono hj hji) with ⟨h2, _, _⟩ | ⟨_, h2⟩
      · omega
      have h4 := qOp_put hoj hapj (fun cs b => hsel i oi cs b hi) (fun cs b => hsel j oj cs b hoj) (hy B (Up.self B)) h2
      have keepj : ∀ (C : World → Prop) (a : Act), YieldsIn P ops C oi v a → ∀ u, YieldsIn P ops C oi v (a.put oj.dst u) := fun C a hy u =>
        hy.of_same (execOp_put oi (fun cs b => hsel i oi cs b hi) a oj.dst u aj3) (wanted_put oi a oj.dst u aj3)
      have h5 : qOp P ops (Up B) j (fun a' => (∀ w, Up B w → YieldsIn P ops (Up w) oi v a') ∧ fli P md ops B d val ob n G L f ((listed.setIfInBounds i true).setIfInBounds j true) (a'.put oi.dst v)) a := by
        unfold qOp at h4 ⊢
        simp only [hoj] at h4 ⊢
        split
        · rename_i hw
          rw [if_pos hw] at h4
          obtain ⟨u, hu, hn⟩ := h4
          exact ⟨u, hu, fun w hw' => keepj _ _ (hy w hw') u, hn.2⟩
        · rename_i hw
          rw [if_neg hw] at h4
          exact ⟨fun w hw' => keepj _ _ (hy w hw') _, h4.2⟩
      refine qOp_mono (fun a' h3 => ih _ a' (by simp [hs]) (by rw [getD_set_ne true (by omega)]; exact hk) (closed_set hk1 hj) (free' _ hfree _) (ready_mono hr (Ne.symm hji)) h3.1 ?_) h5
      rw [Array.setIfInBounds_comm _ _ hji]; exact h3.2

theorem fli_run {B : World} {d : Option Tmp} {val : World → Value} {ob : Obj} {n : Nat} {G : Act → Prop} {on : Oper} {L : World → World → Array Bool → Act → Prop} {Q' : Exit → Act → World → Prop} (hon : ops[n]? = some on) (hg : on.guard = none)
    (hal : ∀ (a : Act) (w : World) (K : Act → World → Prop), G a → K (a.put d (val w)) (w.alloc ob) → on.wp P a w K Q')
    (hL : ∀ w, Up B w → ∀ listed a w', Up (w.alloc ob) w' → L w (w.alloc ob) listed a → wpAny P md ops Q' 2 listed a w') (f : Nat) :
    ∀ listed a w, Up B w → fli P md ops B d val ob n G L f listed a → wpAny P md ops Q' (f + 3) listed a w := by
  have step : ∀ (a : Act) (w : World) (K : Act → World → Prop), G a → K (a.put d (val w)) (w.alloc ob) → wpOp P ops Q' n K a w := by
    intro a w K hG h
    unfold wpOp
    simp only [hon]
    rw [if_pos (by unfold Region.wanted; simp [hg])]
    exact .inl (hal a w K hG h)
  induction f with
  | zero =>
    intro listed a w hw h
    refine ⟨fun h0 => (by rw [h.1] at h0; cases h0), fun i hi => ?_⟩
    rw [h.1] at hi
    obtain rfl : i = n := by simpa using hi
    exact step _ _ _ h.2.1 (hL w hw _ _ _ (Up.self _) (h.2.2 w hw))
  | succ f ih =>
    intro listed a w hw h
    refine ⟨fun h0 => absurd h0 h.1, fun i hi => ?_⟩
    rcases h.2 i hi with ⟨rfl, hG, h2⟩ | ⟨_, h2⟩
    · refine step _ _ _ hG ?_
      exact headQ_run (C := Up (w.alloc ob)) (g := 2) (fun listed a w' hw' h => hL w hw listed a w' hw' h) (f + 1) _ _ _ (Up.self _) (h2 w hw)
    · exact wpOp_of_qOp hw (fun a' w' hw' h' => ih _ a' w' hw' h') h2

def lexG (md : Region.Mode) (ops : Array Oper) (n : Nat) (slots : List Tmp) : Nat → Nat → Array Bool → Bool
  | 0, _, listed => decide (Region.ready md ops listed = [n]) && Region.seqB md ops 2 (n + 1) (listed.setIfInBounds n true)
  | f + 1, k, listed => (Region.ready md ops listed).contains k && Region.free md ops listed k && (wst md ops 6 n k || ((ops[n]?.map fun on => on.after.all fun e => !(Region.binds md e && e.on == k)).getD false && (ops[k]?.map fun o => slots.all fun x => decide (o.dst ≠ some x)).getD false)) && lexG md ops n slots f (k + 1) (listed.setIfInBounds k true)

/-- what the slots hold at the end -/
def Gs (A : Act) (slots : List Tmp) (a : Act) : Prop := ∀ x ∈ slots, a.tmps.getD x undef = A.tmps.getD x undef

theorem fli_lex {B : World} {d : Option Tmp} {val : World → Value} {ob : Obj} {n : Nat} {on : Oper} {A : Act} {slots : List Tmp} (hsz : ops.size = n + 3) (hz : ∀ i, i ≤ n → wst md ops 6 (n + 1) i = true) (hz2 : Region.waitsFor md ops (n + 2) (n + 1) = true)
    (hon : ops[n]? = some on) (hd : on.dst = d) (hsel : Region.noSelect ops = true) (l : List Oper) :
    ∀ (k : Nat) (listed : Array Bool) (a : Act), (∀ j, j < l.length → l[j]? = ops[k + j]?) → k + l.length = n → listed.size = n + 3 → listed.getD n true = false → Closed md ops listed →
    lexG md ops n slots l.length k listed = true → qxs P ops B A l a →
    fli P md ops B d val ob n (Gs A slots) (fun w _ listed' a' => Region.seqB md ops 2 (n + 1) listed' = true ∧ a' = A.put d (val w)) l.length listed a := by
  induction l with
  | nil =>
    intro k listed a _ hk hs hn hn1 hB h
    simp only [List.length_nil, lexG, Bool.and_eq_true, decide_eq_true_eq] at hB
    have h' : a = A := h
    exact ⟨hB.1, by rw [h']; exact fun _ _ => rfl, fun w hw => ⟨hB.2, by rw [h']⟩⟩
  | cons o l ih =>
    intro k listed a hl hk hs hn hn1 hB h
    have h0 : ops[k]? = some o := by simpa using (hl 0 (by simp)).symm
    simp only [List.length_cons, lexG, Bool.and_eq_true] at hB
    have hkn : k < n := by simp only [List.length_cons] at hk; omega
    have hr : k ∈ Region.ready md ops listed := by simpa using hB.1.1.1
    obtain ⟨v, hy, hK⟩ := h
    have hap : wst md ops 6 n k = true ∨ (o.apart ops on = true ∧ ∀ a v, Gs A slots (a.put o.dst v) → Gs A slots a) := by
      rcases Bool.or_eq_true _ _ |>.mp hB.1.2 with h | h
      · exact .inl h
      · rw [hon, h0] at h
        simp only [Option.map_some, Option.getD_some, Bool.and_eq_true, Array.all_eq_true', List.all_eq_true, decide_eq_true_eq, Bool.not_eq_true', Bool.and_eq_false_iff] at h
        refine .inr ⟨Region.free_spec h0 hB.1.1.2 n on hon (by omega) hn ?_, ?_⟩
        · intro e he hb hek
          rcases h.1 e he with h1 | h1
          · rw [hb] at h1; cases h1
          · rw [hek] at h1; simp at h1
        · intro a v hG x hx
          rw [← hG x hx, put_getD_ne _ _ _ _ (h.2 x hx)]
    refine fli_first hsz hz hz2 h0 hon hd hap (Region.noSelect_spec hsel) hkn ?_ l.length listed a hs hn hn1 (Region.free_spec h0 hB.1.1.2) hr hy ?_
    · intro w w' listed a hL j hj
      have := seqB_ready hL.1 j hj
      omega
    · refine ih (k + 1) _ _ ?_ (by simp only [List.length_cons] at hk; omega) (by simp [hs]) (by rw [getD_set_ne true (by omega)]; exact hn) (closed_set hn1 hr) hB.2 hK
      intro j hj
      have := hl (j + 1) (by simp; omega)
      simpa [Nat.add_assoc, Nat.add_comm 1 j] using this

def flowB (md : Region.Mode) (ops : Array Oper) (n : Nat) (slots : List Tmp) : Bool :=
  decide (ops.size = n + 3) && ((List.range (n + 1)).all fun i => wst md ops 6 (n + 1) i) && Region.waitsFor md ops (n + 2) (n + 1) && Region.noSelect ops &&
    lexG md ops n slots n 0 (Array.replicate ops.size false)

/-- n operations that only read, or call what only makes memory; the making of a row; two behind all of them -/
theorem region_flow {id : Nat} {Q : Exit → Act → World → Prop} {a A : Act} {w : World} {l : List Oper} {n d : Nat} {on : Oper} {ob : Obj} (slots : List Tmp) (val : Nat → Value) (hm : P.follows .mixedOrders = true) (hB : flowB .any l.toArray n slots = true)
    (hD : dstsB a.tmps.size (l.take n) = true) (hon : l[n]? = some on) (hd : on.dst = some d)
    (hg : on.guard = none)
    (h : ∀ x, Below w.heap.size w x → wpQuiet P l.toArray (fun w' => ∃ s : Bel x, w' = s.1) (fun a' => a' = A) (l.take n) a)
    (hal : ∀ (a : Act) (w : World) (K : Act → World → Prop), Gs A slots a → K (a.put (some d) (val w.heap.size)) (w.alloc ob) → on.wp P a w K Q)
    (hlast : ∀ g x, Below w.heap.size w x → w.heap.size ≤ g → g < x.heap.size → x.heap[g]? = some ob → wpList P l.toArray Q (l.drop (n + 1)) (A.put (some d) (val g)) x) :
    (Code.region id l.toArray true).wp P Q a w := by
  simp only [flowB, Bool.and_eq_true, decide_eq_true_eq, List.all_eq_true, List.mem_range] at hB
  obtain ⟨⟨⟨⟨hsz, hz⟩, hz2⟩, hsel⟩, hlex⟩ := hB
  have hon' : l.toArray[n]? = some on := by simpa using hon
  have hll : l.length = n + 3 := by simpa using hsz
  have htl : (l.take n).length = n := by simp; omega
  refine wp_region_any hm ?_
  have hb0 : Below w.heap.size w { w with drawn := w.drawn + 1 } := (Below.refl _ w).drew
  have X := qxs_of (P := P) (ops := l.toArray) (B := { w with drawn := w.drawn + 1 }) (A := A) (l.take n) a hD (fun x hx => h x (hb0.trans (hx.below.mono (Nat.le_refl _))))
  have F := fli_lex (P := P) (md := .any) (ob := ob) (val := fun w => val w.heap.size) hsz (fun i hi => hz i (by omega)) hz2 hon' hd hsel (l.take n) 0 (Array.replicate l.toArray.size false) a (fun j hj => by
    have hj' : j < n := by rw [htl] at hj; exact hj
    simp [hj']) (by rw [htl]; omega) (by simpa using hll) (by simp [hll]) closed_none (by rw [htl]; exact hlex) X
  have R := fli_run (P := P) (md := .any) (Q' := Q) hon' hg hal (fun w1 hw1 listed a' x hx hL => by
    obtain ⟨hL1, rfl⟩ := hL
    have hdl : l.drop (n + 1) = [l[n + 1], l[n + 2]] := by
      rw [List.drop_eq_getElem_cons (by omega), List.drop_eq_getElem_cons (by omega), List.drop_eq_nil_of_le (by omega)]
    have hb1 : Below w.heap.size w w1 := hb0.trans (hw1.below.mono (Nat.le_refl _))
    have hb2 : Below w.heap.size w (w1.alloc ob) := hb1.alloc hb1.size _
    have hb3 : Below w.heap.size w x := hb2.trans (hx.below.mono hb2.size)
    have hx1 := hx.below.size
    have hx2 : (w1.alloc ob).heap.size = w1.heap.size + 1 := by simp
    have hH := hlast w1.heap.size x hb3 hb1.size (by omega) (by
      rw [hx.below.block _ (by omega)]
      exact heap_alloc_new w1 ob)
    rw [hdl] at hH
    refine wpAny_of_seq [l[n + 1], l[n + 2]] (n + 1) listed _ x (fun j => ?_) hL1 hH
    match j with
    | 0 => simp
    | 1 => simp
    | j + 2 => simp; omega) _ _ _ _ (Up.self _) F
  have e : (l.take n).length + 3 = l.toArray.size := by rw [htl]; simp; omega
  rw [e] at R
  exact R
end
end Go.Proofs.Ytjdmchfneaebpaa
