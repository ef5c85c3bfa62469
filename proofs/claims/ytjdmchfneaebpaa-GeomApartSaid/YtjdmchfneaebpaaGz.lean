/- The walk of GeomApart. Condition: the numbers fit their kinds. -/
import Derived.Test.YtjdmchfneaebpaaGp
namespace Go.Proofs.Ytjdmchfneaebpaa
open Go.RowKit
set_option linter.unusedVariables false

theorem Try.info4 : (Try.prog.info? 4).map (fun i => (i.zero, i.size, i.bytes)) = some (some (.bool false), 1, 1) := by kernel_rfl
def marks (L : List Int) (m i : Nat) : Array Value := ((List.range m).map fun (j : Nat) => Value.bool (decide ((j : Int) ∈ L.take i))).toArray
theorem made_one (v : Value) (n : Nat) : madeCells #[v] n = (List.replicate n v).toArray := by
  apply Array.ext'
  apply List.ext_getElem?
  intro i
  by_cases h : i < n
  · simp [madeCells, h, Nat.mod_one]
  · simp [madeCells, h]
theorem marks_zero (L : List Int) (m : Nat) : marks L m 0 = (List.replicate m (.bool false)).toArray := by
  apply Array.ext
  · simp [marks]
  · intro i h1 h2; simp [marks]
theorem mk37 (L : List Int) (n : Nat) (h : n ≤ 2097152) (w : World) : (Instr.makeSlice 37 (.int .i64 n) (.int .i64 n)).run Try.prog w = .ok (.slice (some ⟨w.heap.size, 0, none⟩) n n) (w.alloc (.cells (marks L n 0) 4)) := by
  obtain ⟨i, hi, hz, h1, h2⟩ := info_parts Try.info4
  have := run_make (P := Try.prog) (w := w) 37 4 i _ Try.underlying37 hi hz .i64 .i64 n n (by omega) (by omega) (by rw [h2]; omega) (by omega)
  rw [this, h1]
  have e : (Value.bool false).cells = #[.bool false] := rfl
  rw [e, Nat.mul_one, made_one, marks_zero]
  simp
theorem marks_get (L : List Int) (m i j : Nat) (h : j < m) : (marks L m i)[j]? = some (.bool (decide ((j : Int) ∈ L.take i))) := by simp [marks, h]
theorem take_up (L : List Int) (k : Nat) (h : k < L.length) : L.take (k + 1) = L.take k ++ [L.getD k 0] := by
  rw [List.take_add_one, List.getElem?_eq_getElem h]; simp [h]
theorem marks_set (L : List Int) (m k j : Nat) (h : k < L.length) (hj : L.getD k 0 = (j : Int)) : (marks L m k).setIfInBounds j (.bool true) = marks L m (k + 1) := by
  apply Array.ext
  · simp [marks]
  · intro i h1 h2
    rw [Array.getElem_setIfInBounds]
    have hm : i < m := by simpa [marks] using h2
    simp only [marks, List.getElem_toArray, List.getElem_map, List.getElem_range, take_up L k h, List.mem_append, List.mem_singleton, hj]
    by_cases e : j = i
    · subst e; simp
    · have : ¬ ((i : Int) = (j : Int)) := by omega
      simp [e, this]
    all_goals simpa [marks] using h2
theorem not_before {L : List Int} (h : Ap L) (k : Nat) (hk : k < L.length) : L.getD k 0 ∉ L.take k := by
  intro hm
  have e : L = L.take k ++ L.drop k := (List.take_append_drop k L).symm
  unfold Ap at h
  rw [e] at h
  have h2 := (List.pairwise_append.1 h).2.2 _ hm (L.getD k 0) (by
    rw [List.drop_eq_getElem_cons hk]; exact List.mem_cons.2 (.inl (by simp [hk])))
  exact h2 rfl
theorem in_getD (L : List Int) (k : Nat) (h : k < L.length) : L.getD k 0 ∈ L := by simp [h]

/-- what all hands back, opened -/
theorem out_open {w W : World} {n t : Nat} {xs : List Int} {v : Value} (h : Out w n t xs v W) (h0 : 0 < xs.length) : ∃ g c cur, v = .slice (some ⟨g, 0, none⟩) xs.length c ∧ At W g cur 3 ∧ ∀ k, k < xs.length → cur[k]? = some (.int .i64 (xs.getD k 0)) := by
  rcases h.own.2 with ⟨_, h1⟩ | ⟨g, cap, cur, rfl, hg, hh, hc, hm, hs, ht⟩
  · omega
  · refine ⟨g, cap, cur, rfl, hh, fun k hk => ?_⟩
    rw [← Array.getElem?_toList, ← List.getElem?_take_of_lt (show k < xs.length * 1 by omega), ht]
    simp [hk]

set_option maxHeartbeats 4000000 in
theorem apart_main (p h : Int) (n t q : Nat) (w : World) (p0 : 0 ≤ p) (p1 : p ≤ 255) (h0 : 0 ≤ h) (h1 : h ≤ 255) (hn : 1 + p % 20 = (n : Int)) (ht : 1 + h % 8 = (t : Int)) (H : Sm n t) (hq : (q : Int) = ndI n t) :
    Calls Try.prog 6 #[.int .u8 p, .int .u8 h] w fun e w' => e = .returned (.bool true) ∧ Below w.heap.size w w' := by
  have HB := Lib.hid H
  have HQ := Lib.hid hq
  clear hq
  go_enter Try.func6, Try.ntmps6
  go_wp2_with fail
  refine (new_yes n t _ (by have := H.n0; omega) (by have := H.n1; omega) (by have := H.t0; omega) (by have := H.t1; omega)).mono ?_
  rintro e w1 ⟨rfl, B⟩
  go_upto_region 4 with (refine wpList_new_geo rfl (.tmp 5) (.tmp 20) rfl rfl n t _ rfl ?_; intro W A BW; replace B := bnext B BW; clear BW)
  go_wp2_with (refine wpList_load_geo (by rfl) (.tmp 5) rfl _ rfl n t _ A ?_)
  refine (all_walk H q HQ.out _).mono ?_
  rintro e x1 ⟨v, rfl, O⟩
  have A1 := A.below O.bel
  replace B := bnext B O.bel
  have LB := lay_bs n t q HQ.out
  have hlen := len_all LB
  have hin := fun x hx => in_all (x := x) LB hx
  have hap := ap_all LB
  have hle : (lstD (bs n t) n t (2 * t + 2) q).length ≤ 20000 := by
    have h1 := (Sm.bd H 19 (by omega))
    have := le_lstD (bs n t) n t (2 * t + 2) q (by have := H.t1; omega)
    have := Sm.nd H
    have := HQ.out
    have := H.n1
    have := H.t1
    omega
  have hpos : 0 < (lstD (bs n t) n t (2 * t + 2) q).length := by rw [len_lst]; omega
  obtain ⟨g, c, cur, rfl, AL, hcur⟩ := out_open O hpos
  clear LB O
  generalize lstD (bs n t) n t (2 * t + 2) q = L at *
  clear A
  go_wp2_with (refine wpList_load_geo (by rfl) (.tmp 5) rfl _ rfl n t _ A1 ?_)
  refine (words_any n t (bs n t) _).mono ?_
  rintro e x2 ⟨rfl, b⟩
  rw [← hlen] at hin ⊢
  clear hlen
  have AL2 := AL.below b
  replace B := bnext B b
  clear b AL A1
  have mk := mk37 L L.length (by omega)
  go_upto_region 9 with fail
  have AM : At (x2.alloc (.cells (marks L L.length 0) 4)) x2.heap.size (marks L L.length 0) 4 := At.last x2 _ _
  have hne : g ≠ x2.heap.size := by have := AL2.lt; omega
  have hbs := B.size
  have AL3 := AL2.alloc (.cells (marks L L.length 0) 4)
  have B3 := B.alloc B.size (.cells (marks L L.length 0) 4)
  clear mk AL2 B
  have HI := Lib.hid hin
  have HC := Lib.hid hcur
  have HP := Lib.hid hap
  clear hin hcur hap
  generalize World.alloc x2 _ = V at *
  go_loopw [9] (fun ii wr => ∃ k : Nat, k ≤ L.length ∧ ii = .int .i64 k ∧ At wr x2.heap.size (marks L L.length k) 4 ∧ At wr g cur 3 ∧ Below w.heap.size w wr) (fun ii _ => L.length - (intOf ii).toNat)
  case atStart => exact ⟨0, by omega, rfl, AM, AL3, B3⟩
  case round =>
    obtain ⟨k, hk, rfl, AMk, ALk, Bk⟩ := hrel
    clear AM AL3 B3
    by_cases hlt : k < L.length
    · have hx := HI.out _ (in_getD L k hlt)
      have hb := not_before HP.out k hlt
      have c1 := ALk.cell k (HC.out k hlt)
      obtain ⟨j, hj⟩ : ∃ j : Nat, L.getD k 0 = (j : Int) := ⟨(L.getD k 0).toNat, by omega⟩
      have hset := marks_set L L.length k j hlt hj
      rw [hj] at hx hb c1
      have hj2 : j < L.length := by omega
      have c2 := AMk.cell j (marks_get L L.length k j hj2)
      rw [decide_eq_false hb] at c2
      have f2 := frozen_of_row _ _ j _ _ AMk
      have HS := Lib.hid hset
      clear hset hj hb
      go_wp2_with fail
      go_roundw
      case rel =>
        refine ⟨k + 1, by omega, by go_num, ?_, ?_, Bk.setCell hbs _⟩
        · have := heap_setCell_same wr x2.heap.size j _ 4 (.bool true) AMk
          rw [HS.out] at this
          exact this
        · unfold At; rw [heap_setCell_other _ _ _ _ (by simpa using hne)]; exact ALk
      case measure => simp [intOf]; omega
    · obtain rfl : k = L.length := by omega
      go_wp2_with fail
      refine (awake_any _).mono ?_
      rintro e x4 ⟨rfl, b⟩
      go_wp2_with fail
      go_ret
      exact ⟨rfl, bnext Bk b⟩

theorem apart_walk (p h : Int) (w : World) (p0 : 0 ≤ p) (p1 : p ≤ 255) (h0 : 0 ≤ h) (h1 : h ≤ 255) :
    Calls Try.prog 6 #[.int .u8 p, .int .u8 h] w fun e w' => e = .returned (.bool true) ∧ Below w.heap.size w w' := by
  have a0 : 0 ≤ p % 20 := by omega
  have a1 : p % 20 < 20 := by omega
  have b0 : 0 ≤ h % 8 := by omega
  have b1 : h % 8 < 8 := by omega
  have hn : 1 + p % 20 = ((1 + p % 20).toNat : Int) := by omega
  have ht : 1 + h % 8 = ((1 + h % 8).toNat : Int) := by omega
  have H : Sm (1 + p % 20).toNat (1 + h % 8).toNat := ⟨by omega, by omega, by omega, by omega⟩
  exact apart_main p h _ _ (ndI ((1 + p % 20).toNat : Int) ((1 + h % 8).toNat : Int)).toNat w p0 p1 h0 h1 hn ht H (by have := H.nd; omega)
end Go.Proofs.Ytjdmchfneaebpaa
