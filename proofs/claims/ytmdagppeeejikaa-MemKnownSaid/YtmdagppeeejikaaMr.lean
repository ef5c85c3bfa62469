/- The reference's memory: New. Condition: the numbers fit their kinds. -/
import Derived.Test.YtmdagppeeejikaaMq
import Derived.Laws.AppendOwnNone
import Derived.Laws.OwnMore
import Derived.Laws.ResultCell
import Derived.Deep.Cut
import Derived.Laws.CopyOwn
namespace Go.Proofs.Ytmdagppeeejikaa
open Go.RowKit
set_option linter.unusedVariables false

theorem results_row_tmp {P : Program} {fn : Func} {p u : Tmp} {ty : TypeId} (h : fn.results = #[.cell p ty, .tmp u]) (tmps : Array Value) (w : World) (g : Nat) (t : TypeId) (cs : Array Value) (fr : Nat × Nat) (d : TypeDesc) (v : Value)
    (hp : tmps.getD p undef = .pointer (some ⟨g, 0, none⟩)) (hv : tmps.getD u undef = v) (hg : w.heap[g]? = some (.cells cs t fr))
    (hu : P.underlying ty = some d) (hd : (match d with | .struct _ | .array _ _ => true | _ => false) = true) (hi : (P.info? ty).map (·.size) = some cs.size) :
    (results fn tmps).run P w = .ok (.tuple #[.agg cs, v]) w := by
  have hp' : tmps[p]?.getD undef = .pointer (some ⟨g, 0, none⟩) := by simpa using hp
  have hv' : tmps[u]?.getD undef = v := by simpa using hv
  simp [results, h, hp', hv', asAddr, run_loadVar_row w g t ty cs fr d hg hu hd hi]
theorem results_row_tmp2 {P : Program} {fn : Func} {p u u' : Tmp} {ty : TypeId} (h : fn.results = #[.cell p ty, .tmp u, .tmp u']) (tmps : Array Value) (w : World) (g : Nat) (t : TypeId) (cs : Array Value) (fr : Nat × Nat) (d : TypeDesc) (v v' : Value)
    (hp : tmps.getD p undef = .pointer (some ⟨g, 0, none⟩)) (hv : tmps.getD u undef = v) (hv' : tmps.getD u' undef = v') (hg : w.heap[g]? = some (.cells cs t fr))
    (hu : P.underlying ty = some d) (hd : (match d with | .struct _ | .array _ _ => true | _ => false) = true) (hi : (P.info? ty).map (·.size) = some cs.size) :
    (results fn tmps).run P w = .ok (.tuple #[.agg cs, v, v']) w := by
  have hp1 : tmps[p]?.getD undef = .pointer (some ⟨g, 0, none⟩) := by simpa using hp
  have hv1 : tmps[u]?.getD undef = v := by simpa using hv
  have hv2 : tmps[u']?.getD undef = v' := by simpa using hv'
  simp [results, h, hp1, hv1, hv2, asAddr, run_loadVar_row w g t ty cs fr d hg hu hd hi]
theorem info41 (a b : Value) : (Try.prog.info? 41).map (·.size) = some (#[a, b] : Array Value).size := by kernel_rfl

theorem own_of_block {V : World} {base e g n : Nat} {cs : Array Value} (h : V.heap[g]? = some (.cells cs e (0, 0))) (hb : base ≤ g) (hn : cs.size = n) (hm : n ≤ maxLen) : V.ownsRow base e 1 (.slice (some ⟨g, 0, none⟩) n n) n cs.toList := by
  subst hn
  exact ⟨by simp, .inr ⟨g, _, cs, rfl, hb, h, Nat.le_refl _, hm, by simp, List.take_of_length_le (by simp)⟩⟩
theorem own_below {w w' : World} {base e size n : Nat} {v : Value} {xs : List Value} (h : w.ownsRow base e size v n xs) (hb : Below w.heap.size w w') : w'.ownsRow base e size v n xs := by
  obtain ⟨hl, h⟩ := h
  refine ⟨hl, ?_⟩
  rcases h with h | ⟨g, cap, cur, hv, hg, hh, r⟩
  · exact .inl h
  · exact .inr ⟨g, cap, cur, hv, hg, (hb.block g (Array.getElem?_eq_some_iff.1 hh).1).trans hh, r⟩
theorem own_base {w : World} {base base' e size n : Nat} {v : Value} {xs : List Value} (h : w.ownsRow base e size v n xs) (hb : base' ≤ base) : w.ownsRow base' e size v n xs := by
  obtain ⟨hl, h⟩ := h
  refine ⟨hl, ?_⟩
  rcases h with h | ⟨g, cap, cur, hv, hg, r⟩
  · exact .inl h
  · exact .inr ⟨g, cap, cur, hv, Nat.le_trans hb hg, r⟩
theorem own_shape {w : World} {base e size n : Nat} {v : Value} {xs : List Value} (h : w.ownsRow base e size v n xs) : ∃ ao c, v = .slice ao n c := by
  rcases h.2 with ⟨rfl, rfl⟩ | ⟨g, cap, cur, rfl, _⟩
  · exact ⟨_, _, rfl⟩
  · exact ⟨_, _, rfl⟩
theorem own_open {w : World} {base e size n : Nat} {v : Value} {xs : List Value} (h : w.ownsRow base e size v n xs) (hn : 0 < n) : ∃ g cap, v = .slice (some ⟨g, 0, none⟩) n cap ∧ base ≤ g ∧ g < w.heap.size := by
  rcases h.2 with ⟨_, h0⟩ | ⟨g, cap, cur, hv, hg, hh, _⟩
  · omega
  · exact ⟨g, cap, hv, hg, (Array.getElem?_eq_some_iff.1 hh).1⟩
theorem grown_setRow (w : World) (g : Nat) (cs : Array Value) : w.grownBy (w.setRow g cs) (some g) := ⟨rfl, rfl, rfl, by simp [World.setRow], fun k _ hk => setRow_other w g k cs (fun e => hk (by rw [e]))⟩
theorem own_setRow {w : World} {base e size n : Nat} {v : Value} {xs : List Value} (h : w.ownsRow base e size v n xs) (g : Nat) (cs : Array Value) (hne : ∀ k, v.ownBlock = some k → k ≠ g) : (w.setRow g cs).ownsRow base e size v n xs := by
  refine h.kept (grown_setRow w g cs) ?_
  cases hv : v.ownBlock with
  | none => exact .inl rfl
  | some k => exact .inr fun e => hne k hv (Option.some.inj e)
/-- a slice as the source of an append: nil, or cells that are there -/
def Frm (w : World) (x : Value) (m : Nat) (size : Nat) (news : List Value) : Prop :=
  (x = .slice none 0 0 ∧ m = 0 ∧ news = []) ∨ ∃ ad c, x = .slice (some ad) m c ∧ news.length = m * size ∧ (∀ j u, news[j]? = some u → w.cell? (ad.add j) = some u) ∧ ∀ u ∈ news, u.oneCell' = true
theorem wpList_append_frm {P : Program} {w : World} {ops : Array Oper} {rest : List Oper} {o : Oper} {a : Act} {Q : Exit → Act → World → Prop} (hgd : o.guard = none) (s x : Operand) (t : TypeId)
    (ho : o.op = .call { callee := .builtin .append, args := #[s, x], argTypes := #[t, t] })
    (base : Nat) (e : TypeId) (i : TypeInfo) (z : Value) (size bytes : Nat) (ht : P.underlying t = some (.slice e)) (hi : P.info? e = some i) (hz : i.zero = some z)
    (hsize : i.size = size) (hby : i.bytes = bytes) (hzs : z.cells.size = size) (hsz : 0 < size)
    (v : Value) (n : Nat) (xs : List Value) (hs : a.eval s = v) (hown : w.ownsRow base e size v n xs)
    (y : Value) (m : Nat) (news : List Value) (hx : a.eval x = y) (hf : Frm w y m size news)
    (h63 : n + m ≤ maxLen) (hbytes : (n + m) * bytes ≤ 140737488355328) (hbase : base ≤ w.heap.size)
    (h : ∀ v' w', w'.ownsRow base e size v' (n + m) (xs ++ news) → w.grownBy w' v.ownBlock → wpList P ops Q rest (a.put o.dst v') w') : wpList P ops Q (o :: rest) a w := by
  rcases hf with ⟨rfl, rfl, rfl⟩ | ⟨ad, c, rfl, hl, hc, h1⟩
  · refine wpList_append_own_none hgd s x t ho base e i size ht hi v n xs hs hown hx (h _ _ ?_ ⟨rfl, rfl, rfl, Nat.le_refl _, fun _ _ _ => rfl⟩)
    simpa using hown
  · exact wpList_append_own w hgd s x t ho base e i z size bytes ht hi hz hsize hby hzs hsz v n xs hs hown ad m c news hx hl hc h1 h63 hbytes hbase fun v' w' a b _ => h v' w' a b
theorem frm_own {w : World} {base e size n : Nat} {v : Value} {xs : List Value} (h : w.ownsRow base e size v n xs) (hone : ∀ u ∈ xs, u.oneCell' = true) : Frm w v n size xs := by
  have hl := h.1
  rcases h.2 with ⟨rfl, rfl⟩ | ⟨g, cap, cur, rfl, hg, hh, hc, hm, hs, ht⟩
  · refine .inl ⟨rfl, rfl, ?_⟩
    simpa using hl
  · refine .inr ⟨_, _, rfl, hl, ?_, hone⟩
    intro j u hu
    rw [Addr.add_lit, Nat.zero_add, cell_of_row w g j cur e (0, 0) hh]
    have hj : j < n * size := by
      have := (List.getElem?_eq_some_iff.1 hu).1; omega
    rw [← hu, ← ht, List.getElem?_take_of_lt hj, Array.getElem?_toList]
theorem one_map (k : IntKind) (l : List Int) : ∀ u ∈ l.map (Value.int k), u.oneCell' = true := by
  intro u hu
  obtain ⟨z, _, rfl⟩ := List.mem_map.1 hu
  rfl

/-- two slices of the call's own that read as the words and bytes -/
structure Ref (w : World) (base : Nat) (v1 v2 : Value) (W B : List Int) : Prop where
  words : w.ownsRow base 22 1 v1 W.length (W.map (Value.int .u64))
  bytes : w.ownsRow base 5 1 v2 B.length (B.map (Value.int .u8))
def RefNew (n k : Nat) (w : World) (e : Ending) (w' : World) : Prop := ∃ v1 v2, e = .returned (.tuple #[.agg #[v1, v2], .bool true]) ∧ Ref w' w.heap.size v1 v2 (zeros n) (zeros k) ∧ Below w.heap.size w w'

theorem ref_fin (n k : Nat) (w V : World) (bw bb : Nat) (h1 : n ≤ 2097152) (h2 : k ≤ 1048576) (hw : V.heap[bw]? = some (.cells (u64s (zeros n)) 22 (0, 0))) (hb : V.heap[bb]? = some (.cells (u8s (zeros k)) 5 (0, 0))) (hB : Below w.heap.size w V) (l2 : w.heap.size ≤ bw) (l3 : w.heap.size ≤ bb) :
    RefNew n k w (.returned (.tuple #[.agg #[.slice (some ⟨bw, 0, none⟩) n n, .slice (some ⟨bb, 0, none⟩) k k], .bool true])) V := by
  have e1 : (zeros n).length = n := by simp [zeros]
  have e2 : (zeros k).length = k := by simp [zeros]
  refine ⟨_, _, rfl, ⟨?_, ?_⟩, hB⟩
  · rw [e1]
    have := own_of_block (base := w.heap.size) (n := n) hw l2 (by simp [u64s, e1]) (by unfold maxLen; omega)
    simpa [u64s] using this
  · rw [e2]
    have := own_of_block (base := w.heap.size) (n := k) hb l3 (by simp [u8s, e2]) (by unfold maxLen; omega)
    simpa [u8s] using this

set_option maxHeartbeats 1000000 in
theorem ref_new (n k : Nat) (w : World) (h1 : n ≤ 2097152) (h2 : k ≤ 1048576) :
    Calls Try.prog 19 #[.int .i64 n, .int .i64 k] w (RefNew n k w) := by
  have m1 := mk22 n h1
  have m2 := mk5 k h2
  go_enter Try.func19, Try.ntmps19
  go_wp2_with fail
  go_region_with (fail)
  all_goals go_wp2_with fail
  · refine bodyPost_ret (results_row_tmp (p := 4) (u := 5) (ty := 41) rfl _ _ w.heap.size 41 #[.slice (some ⟨w.heap.size + 1, 0, none⟩) n n, .slice (some ⟨w.heap.size + 1 + 1, 0, none⟩) k k] (0, 0) _ _ rfl rfl (al3_0 w _ _ _) Try.underlying41 rfl (info41 _ _)) rfl ?_
    exact ref_fin n k w _ _ _ h1 h2 (al3_1 w _ _ _) (al3_2 w _ _ _) (al3_b w _ _ _).drew (by omega) (by omega)
  · refine bodyPost_ret (results_row_tmp (p := 4) (u := 5) (ty := 41) rfl _ _ w.heap.size 41 #[.slice (some ⟨w.heap.size + 1 + 1, 0, none⟩) n n, .slice (some ⟨w.heap.size + 1, 0, none⟩) k k] (0, 0) _ _ rfl rfl (al3_0 w _ _ _) Try.underlying41 rfl (info41 _ _)) rfl ?_
    exact ref_fin n k w _ _ _ h1 h2 (al3_2 w _ _ _) (al3_1 w _ _ _) (al3_b w _ _ _).drew (by omega) (by omega)

theorem Ref.below {w w' : World} {base : Nat} {v1 v2 : Value} {W B : List Int} (h : Ref w base v1 v2 W B) (hb : Below w.heap.size w w') : Ref w' base v1 v2 W B := ⟨own_below h.words hb, own_below h.bytes hb⟩
theorem Ref.setRow {w : World} {base : Nat} {v1 v2 : Value} {W B : List Int} (h : Ref w base v1 v2 W B) (g : Nat) (cs : Array Value) (h1 : ∀ k, v1.ownBlock = some k → k ≠ g) (h2 : ∀ k, v2.ownBlock = some k → k ≠ g) : Ref (w.setRow g cs) base v1 v2 W B := ⟨own_setRow h.words g cs h1, own_setRow h.bytes g cs h2⟩
theorem one41 (a b : Option Addr) (n c m d : Nat) : ((#[.slice a n c, .slice b m d] : Array Value).all fun x => x.oneCell') = true := by kernel_rfl
/-- what Do leaves -/
def RefDo (base : Nat) (W B : List Int) (k t a b : Int) (w : World) (e : Ending) (w' : World) : Prop :=
  ∃ v1 v2, e = .returned (.tuple #[.agg #[v1, v2], .int .u64 (tD W B k t a), .bool (okD W B k t)]) ∧ Ref w' base v1 v2 (wD W k t a b) (bD B k t a) ∧ Below w.heap.size w w'
end Go.Proofs.Ytmdagppeeejikaa
