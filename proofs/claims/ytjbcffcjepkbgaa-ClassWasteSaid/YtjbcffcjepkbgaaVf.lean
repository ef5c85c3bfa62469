/- What the law ClassWaste asks of the numbers, and an append from whatever slice. No condition but those named. -/
import Derived.Test.YtjbcffcjepkbgaaFb
import Derived.Laws.AppendOwnNone
namespace Go.Proofs.Ytjbcffcjepkbgaa
open Go.RowKit
set_option linter.unusedVariables false

theorem grain_all : ∀ n : Fin 64, (((n.val : Int) + 1 ≤ 32 → 0 ≤ ofI (n.val + 1) 1 ∧ ofI (n.val + 1) 1 ≤ 3 ∧ szI (ofI (n.val + 1) 1) - (n.val + 1) < 8 ∧ (n.val : Int) + 1 ≤ szI (ofI (n.val + 1) 1)) ∧ (32 < (n.val : Int) + 1 → ofI (n.val + 1) 1 = -1)) := by decide +kernel
theorem grain_facts (n : Int) (h1 : 1 ≤ n) (h2 : n ≤ 64) : (n ≤ 32 → 0 ≤ ofI n 1 ∧ ofI n 1 ≤ 3 ∧ szI (ofI n 1) - n < 8 ∧ n ≤ szI (ofI n 1)) ∧ (32 < n → ofI n 1 = -1) := by
  have := grain_all ⟨(n - 1).toNat, by omega⟩
  simpa only [Int.toNat_of_nonneg (show 0 ≤ n - 1 by omega), show n - 1 + 1 = n by omega] using this
theorem page_facts (n : Int) (h1 : 1 ≤ n) (h2 : n ≤ 64) : pgI n = 1 := by
  unfold pgI; rw [if_neg (by omega)]; omega
def pw2 (r : Int) : Int := 2 ^ r.toNat
theorem less_all : ∀ n : Fin 65, ∀ i j : Fin 7, (0 ≤ ofI (n.val + 1) (max (2 ^ i.val) (2 ^ j.val)) → 0 ≤ ofI (n.val + 1) (min (2 ^ i.val) (2 ^ j.val)) ∧ ofI (n.val + 1) (min (2 ^ i.val) (2 ^ j.val)) ≤ ofI (n.val + 1) (max (2 ^ i.val) (2 ^ j.val))) := by decide +kernel
theorem more_all : ∀ n : Fin 65, ∀ i : Fin 7, (0 ≤ ofI (n.val + 1 + 1) (2 ^ i.val) → 0 ≤ ofI (n.val + 1) (2 ^ i.val) ∧ ofI (n.val + 1) (2 ^ i.val) ≤ ofI (n.val + 1 + 1) (2 ^ i.val)) := by decide +kernel
theorem less_facts (n a b : Int) (h1 : 1 ≤ n) (h2 : n ≤ 64) (a0 : 0 ≤ a) (a1 : a < 7) (b0 : 0 ≤ b) (b1 : b < 7) : 0 ≤ ofI n (max (pw2 a) (pw2 b)) → 0 ≤ ofI n (min (pw2 a) (pw2 b)) ∧ ofI n (min (pw2 a) (pw2 b)) ≤ ofI n (max (pw2 a) (pw2 b)) := by
  have := less_all ⟨(n - 1).toNat, by omega⟩ ⟨a.toNat, by omega⟩ ⟨b.toNat, by omega⟩
  simpa only [Int.toNat_of_nonneg (show 0 ≤ n - 1 by omega), show n - 1 + 1 = n by omega, pw2] using this
theorem more_facts (n a : Int) (h1 : 1 ≤ n) (h2 : n ≤ 64) (a0 : 0 ≤ a) (a1 : a < 7) : 0 ≤ ofI (n + 1) (pw2 a) → 0 ≤ ofI n (pw2 a) ∧ ofI n (pw2 a) ≤ ofI (n + 1) (pw2 a) := by
  have := more_all ⟨(n - 1).toNat, by omega⟩ ⟨a.toNat, by omega⟩
  simpa only [Int.toNat_of_nonneg (show 0 ≤ n - 1 by omega), show n - 1 + 1 = n by omega, pw2] using this
theorem pw2_all : ∀ i : Fin 7, (1 : Int) ≤ 2 ^ i.val ∧ (2 : Int) ^ i.val ≤ 64 := by decide
theorem pw2_bd (a : Int) (a0 : 0 ≤ a) (a1 : a < 7) : 1 ≤ pw2 a ∧ pw2 a ≤ 64 := pw2_all ⟨a.toNat, by omega⟩
theorem ixI (k : Int) (h0 : 0 ≤ k) (h1 : k ≤ 3) (w : World) : (Instr.index 24 (.agg #[.int .i64 8, .int .i64 8, .int .i64 8, .int .i64 16, .int .i64 16, .int .i64 4, .int .i64 24, .int .i64 8, .int .i64 2, .int .i64 32, .int .i64 32, .int .i64 2]) (.int .i64 k)).run Try.prog w = .ok (.agg #[.int .i64 (szI k), .int .i64 (alI k), .int .i64 (blI k)]) w := by
  rcases (show k = 0 ∨ k = 1 ∨ k = 2 ∨ k = 3 by omega) with rfl | rfl | rfl | rfl
  · exact ix0 w
  · exact ix1 w
  · exact ix2 w
  · exact ix3 w

theorem G_app (x y : List Int) : G (x ++ y) = G x ++ G y := by simp [G]
theorem C_app (x y : List Int) : C (x ++ y) = C x ++ C y := by simp [C, G_app]
theorem C_len (x : List Int) : (C x).length = (G x).length * 3 := by
  unfold C
  induction G x with
  | nil => rfl
  | cons a l ih => rw [List.flatMap_cons, List.length_append, ih]; simp [cls]; omega

/-- a slice as the source of an append: nil, or cells that are there -/
def Frm (w : World) (x : Value) (m : Nat) (size : Nat) (news : List Value) : Prop :=
  (x = .slice none 0 0 ∧ m = 0 ∧ news = []) ∨ ∃ ad c, x = .slice (some ad) m c ∧ news.length = m * size ∧ (∀ j u, news[j]? = some u → w.cell? (ad.add j) = some u) ∧ ∀ u ∈ news, u.oneCell' = true

theorem wpList_append_frm {P : Program} {w : World} {ops : Array Oper} {rest : List Oper} {o : Oper} {a : Act} {Q : Exit → Act → World → Prop} (hgd : o.guard = none) (s x : Operand) (t : TypeId)
    (ho : o.op = .call { callee := .builtin .append, args := #[s, x], argTypes := #[t, t] })
    (base : Nat) (e : TypeId) (i : TypeInfo) (z : Value) (size bytes : Nat) (ht : P.underlying t = some (.slice e)) (hi : P.info? e = some i) (hz : i.zero = some z)
    (hsize : i.size = size) (hby : i.bytes = bytes) (hzs : z.cells.size = size) (hsz : 0 < size)
    (v : Value) (n : Nat) (xs : List Value) (hs : a.eval s = v) (hown : w.ownsRow base e size v n xs)
    (y : Value) (m : Nat) (news : List Value) (hx : a.eval x = y) (hf : Frm w y m size news)
    (h63 : n + m ≤ maxLen) (hbytes : (n + m) * bytes ≤ 140737488355328) (hbase : base ≤ w.heap.size)
    (h : ∀ v' w', w'.ownsRow base e size v' (n + m) (xs ++ news) → w.grownBy w' v.ownBlock → wpList P ops Q rest (a.put o.dst v') w') : wpList P ops Q (o :: rest) a w := by
  rcases hf with ⟨rfl, rfl, rfl⟩ | ⟨ad, c, rfl, hl, hc, h1⟩
  · refine wpList_append_own_none hgd s x t ho base e i size ht hi v n xs hs hown hx (h _ _ ?_ ⟨rfl, rfl, rfl, Nat.le_refl _, fun _ _ _ => rfl⟩)
    simpa using hown
  · exact wpList_append_own w hgd s x t ho base e i z size bytes ht hi hz hsize hby hzs hsz v n xs hs hown ad m c news hx hl hc h1 h63 hbytes hbase fun v' w' a b _ => h v' w' a b

theorem own_below {w w' : World} {base e size n : Nat} {v : Value} {xs : List Value} (h : w.ownsRow base e size v n xs) (hb : Below w.heap.size w w') : w'.ownsRow base e size v n xs := by
  obtain ⟨hl, h⟩ := h
  refine ⟨hl, ?_⟩
  rcases h with h | ⟨g, cap, cur, hv, hg, hh, r⟩
  · exact .inl h
  · exact .inr ⟨g, cap, cur, hv, hg, (hb.block g (Array.getElem?_eq_some_iff.1 hh).1).trans hh, r⟩
theorem frm_own {w : World} {base e size n : Nat} {v : Value} {xs : List Value} (h : w.ownsRow base e size v n xs) (hone : ∀ u ∈ xs, u.oneCell' = true) : Frm w v n size xs := by
  have hl := h.1
  rcases h.2 with ⟨rfl, rfl⟩ | ⟨g, cap, cur, rfl, hg, hh, hc, hm, hs, ht⟩
  · refine .inl ⟨rfl, rfl, ?_⟩
    simpa using hl
  · refine .inr ⟨_, _, rfl, hl, ?_, hone⟩
    intro j u hu
    rw [Addr.add_lit, Nat.zero_add, cell_of_row w g j cur e (0, 0) hh]
    have hj : j < n * size := by
      have := (List.getElem?_eq_some_iff.1 hu).1; omega
    rw [← hu, ← ht, List.getElem?_take_of_lt hj, Array.getElem?_toList]
theorem frm_row {w : World} {a : Option Addr} {len cap : Nat} {zs : List Int} (h : IsRow .i64 w a len cap zs) : Frm w (.slice a len cap) len 1 ((zs.take len).map (Value.int .i64)) := by
  rcases h with ⟨rfl, rfl, rfl, rfl⟩ | ⟨x, rfl, h1, h2, h3, h4, h5⟩
  · exact .inl ⟨rfl, rfl, rfl⟩
  · refine .inr ⟨_, _, rfl, by simp; omega, ?_, ?_⟩
    · intro j u hu
      rw [List.getElem?_map] at hu
      obtain ⟨z, hz, rfl⟩ := Option.map_eq_some_iff.1 hu
      have hj := (List.getElem?_eq_some_iff.1 hz).1
      simp at hj
      rw [h4 j (by omega)]
      rw [List.getElem?_take_of_lt (by omega)] at hz
      simp [List.getD, hz]
    · intro u hu
      obtain ⟨z, _, rfl⟩ := List.mem_map.1 hu
      rfl
theorem one_C (zs : List Int) : ∀ u ∈ C zs, u.oneCell' = true := by
  intro u hu
  unfold C at hu
  obtain ⟨z, _, hz⟩ := List.mem_flatMap.1 hu
  simp [cls] at hz
  rcases hz with rfl | rfl | rfl <;> rfl
/-- an owned row of numbers, as a slice that came in -/
theorem row_own {w : World} {base n : Nat} {v : Value} {zs : List Int} (h : w.ownsRow base 3 1 v n (zs.map (Value.int .i64))) :
    n = zs.length ∧ ((v = .slice none 0 0 ∧ n = 0) ∨ ∃ g cap, v = .slice (some ⟨g, 0, none⟩) n cap ∧ base ≤ g ∧ g < w.heap.size ∧ ∀ i, i < n → w.cell? ⟨g, 0 + i, none⟩ = some (.int .i64 (zs.getD i 0))) := by
  have hl := h.1
  simp at hl
  refine ⟨hl.symm, ?_⟩
  rcases h.2 with ⟨rfl, rfl⟩ | ⟨g, cap, cur, rfl, hg, hh, hc, hm, hs, ht⟩
  · exact .inl ⟨rfl, rfl⟩
  · refine .inr ⟨g, cap, rfl, hg, (Array.getElem?_eq_some_iff.1 hh).1, fun i hi => ?_⟩
    rw [Nat.zero_add, cell_of_row w g i cur 3 (0, 0) hh]
    have e : cur[i]? = (zs.map (Value.int .i64))[i]? := by
      rw [← ht, List.getElem?_take_of_lt (by omega), Array.getElem?_toList]
    rw [e]
    simp [List.getD, show i < zs.length by omega]
/-- class.Make of a row of the call's own -/
theorem make_own (base n : Nat) (v : Value) (zs : List Int) (w : World) (h : w.ownsRow base 3 1 v n (zs.map (Value.int .i64))) (hl : n ≤ 1000) :
    Calls Try.prog 9 #[v] w fun e w' => ∃ v, e = .returned v ∧ w'.ownsRow w.heap.size 23 3 v (G zs).length (C zs) ∧ Below w.heap.size w w' := by
  obtain ⟨rfl, ⟨rfl, h0⟩ | ⟨g, cap, rfl, _, hg, hc⟩⟩ := row_own h
  · have hz : zs = [] := List.eq_nil_of_length_eq_zero h0
    subst hz
    refine (make_nil none 0 w).mono fun e w' ⟨he, hw⟩ => ?_
    subst hw
    exact ⟨_, he, World.ownsRow_nil _ _ _ _, Below.refl _ _⟩
  · exact make_any g 0 zs.length cap zs w rfl hl hg hc
/-- what two owned rows with the same cells hold at a place -/
theorem own_at {w : World} {base n : Nat} {v : Value} {zs : List Int} (h : w.ownsRow base 23 3 v n (C zs)) (hn : n = (G zs).length) :
    ∃ ao cp, v = .slice ao n cp ∧ ∀ k, k < n → ∃ g, ao = some ⟨g, 0, none⟩ ∧ g < w.heap.size ∧ n ≤ cp ∧ ∀ j, j < 3 → w.cell? ⟨g, k * 3 + j, none⟩ = (cls ((G zs).getD k 0))[j]? := by
  by_cases h0 : n = 0
  · subst h0
    obtain ⟨_, h | ⟨g, cp, _, h, _⟩⟩ := h
    · exact ⟨none, 0, h.1, fun k hk => by omega⟩
    · exact ⟨_, cp, h, fun k hk => by omega⟩
  · obtain ⟨g, cp, hv, _, hg, hcp, _, hc⟩ := own_open h (by omega)
    refine ⟨_, cp, hv, fun k hk => ⟨g, rfl, hg, hcp, fun j hj => (hc (k * 3 + j) (by omega)).trans (flat_get (G zs) k j (by omega) hj)⟩⟩
def Both (m : Nat) (aA a7 : Option Addr) (w : World) (zs : List Int) : Prop :=
  ∀ k, k < m → ∃ g h, aA = some ⟨g, 0, none⟩ ∧ a7 = some ⟨h, 0, none⟩ ∧ g < w.heap.size ∧ h < w.heap.size ∧
    ∀ j, j < 3 → w.cell? ⟨g, k * 3 + j, none⟩ = (cls ((G zs).getD k 0))[j]? ∧ w.cell? ⟨h, k * 3 + j, none⟩ = (cls ((G zs).getD k 0))[j]?
theorem both_mk {x6 x7 : World} {B B' : Nat} {vA v5 v7 : Value} {n5 : Nat} {z5 z6 : List Int} (OA : x6.ownsRow B 23 3 vA (G (z5 ++ z6)).length (C (z5 ++ z6))) (hA : ∀ k, vA.ownBlock = some k → k < B')
    (O5 : x6.ownsRow B' 23 3 v5 n5 (C z5)) (G7 : x6.grownBy x7 v5.ownBlock) (O7 : x7.ownsRow B' 23 3 v7 ((G z5).length + (G z6).length) (C z5 ++ C z6)) :
    ∃ m aA cA a7 c7, vA = .slice aA m cA ∧ v7 = .slice a7 m c7 ∧ m = (G z5).length + (G z6).length ∧ Both m aA a7 x7 (z5 ++ z6) := by
  have OA7 : x7.ownsRow B 23 3 vA (G (z5 ++ z6)).length (C (z5 ++ z6)) := by
    refine OA.kept G7 ?_
    cases hv : vA.ownBlock with
    | none => exact .inl rfl
    | some k =>
      refine .inr fun e => ?_
      have h1 := hA k hv
      have h2 := (O5.lt k e.symm).1
      omega
  have hl : (G (z5 ++ z6)).length = (G z5).length + (G z6).length := by rw [G_app, List.length_append]
  rw [← C_app, ← hl] at O7
  obtain ⟨aA, cA, hvA, hcA⟩ := own_at OA7 rfl
  obtain ⟨a7, c7, hv7, hc7⟩ := own_at O7 rfl
  refine ⟨_, aA, cA, a7, c7, hvA, hv7, hl, fun k hk => ?_⟩
  obtain ⟨g, hg, hg', _, cg⟩ := hcA k hk
  obtain ⟨h, hh, hh', _, ch⟩ := hc7 k hk
  exact ⟨g, h, hg, hh, hg', hh', fun j hj => ⟨cg j hj, ch j hj⟩⟩
end Go.Proofs.Ytjbcffcjepkbgaa
