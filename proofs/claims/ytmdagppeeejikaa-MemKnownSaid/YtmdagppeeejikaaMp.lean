/- The law MemAdds answers true. Condition: the numbers fit their kinds. -/
import Derived.Test.YtmdagppeeejikaaMo
namespace Go.Proofs.Ytmdagppeeejikaa
open Go.RowKit
set_option linter.unusedVariables false

/-- what is known of a slice of integers that came in -/
def IsRow (k : IntKind) (w : World) (a : Option Addr) (len cap : Nat) (zs : List Int) : Prop :=
  (a = none ∧ len = 0 ∧ cap = 0 ∧ zs = []) ∨
  ∃ x, a = some x ∧ len ≤ cap ∧ cap ≤ maxLen ∧ zs.length = cap ∧ (∀ i, i < zs.length → w.cell? (x.add i) = some (.int k (zs.getD i 0))) ∧ ∀ n ∈ zs, (Lit.int k n).wf = true
theorem IsRow.below {k : IntKind} {w w' : World} {a : Option Addr} {len cap : Nat} {zs : List Int} (h : IsRow k w a len cap zs) (hb : Below w.heap.size w w') : IsRow k w' a len cap zs := by
  rcases h with h | ⟨x, ha, h1, h2, h3, h4, h5⟩
  · exact .inl h
  · refine .inr ⟨x, ha, h1, h2, h3, fun i hi => ?_, h5⟩
    have hc := h4 i hi
    rw [hb.cell (World.block_lt_of_cell? w _ hc)]
    exact hc
/-- the same, an element at a time -/
def Row (k : IntKind) (w : World) (a : Option Addr) (len : Nat) (zs : List Int) : Prop :=
  ∀ i, i < len → ∃ b off, a = some ⟨b, off, none⟩ ∧ w.cell? ⟨b, off + i, none⟩ = some (.int k (zs.getD i 0)) ∧ (Lit.int k (zs.getD i 0)).wf = true
theorem IsRow.row {k : IntKind} {w : World} {a : Option Addr} {len cap : Nat} {zs : List Int} (h : IsRow k w a len cap zs) : Row k w a len zs := by
  intro i hi
  rcases h with ⟨_, h, _⟩ | ⟨x, rfl, h1, h2, h3, h4, h5⟩
  · omega
  · obtain ⟨b, off, spot⟩ := x
    have hc := h4 i (by omega)
    have hspot : spot = none := by simpa [Addr.add] using World.cell?_spot (h4 0 (by omega))
    subst hspot
    refine ⟨b, off, rfl, by simpa [Addr.add_lit] using hc, h5 _ ?_⟩
    have : i < zs.length := by omega
    simp [List.getD, this]
theorem IsRow.len {k : IntKind} {w : World} {a : Option Addr} {len cap : Nat} {zs : List Int} (h : IsRow k w a len cap zs) : len ≤ 9223372036854775807 := by
  rcases h with ⟨_, rfl, _⟩ | ⟨_, _, h1, h2, _⟩
  · omega
  · unfold maxLen at h2; omega
theorem Row.below {k : IntKind} {w w' : World} {a : Option Addr} {len : Nat} {zs : List Int} (h : Row k w a len zs) (hb : Below w.heap.size w w') : Row k w' a len zs := by
  intro i hi
  obtain ⟨b, off, ha, hc, hw⟩ := h i hi
  exact ⟨b, off, ha, (hb.cell (World.block_lt_of_cell? w _ hc)).trans hc, hw⟩

/-! the sums -/
def sumTo (f : Nat → Int) : Nat → Int
  | 0 => 0
  | k + 1 => sumTo f k + f k
theorem sumTo_head (f : Nat → Int) (n : Nat) : sumTo f (n + 1) = f 0 + sumTo (fun j => f (j + 1)) n := by
  induction n with
  | zero => simp [sumTo]
  | succ n ih => rw [sumTo, ih, sumTo]; omega
theorem sumTo_congr (f g : Nat → Int) (n : Nat) (h : ∀ j, j < n → f j = g j) : sumTo f n = sumTo g n := by
  induction n with
  | zero => rfl
  | succ n ih => rw [sumTo, sumTo, ih (fun j hj => h j (by omega)), h n (by omega)]
theorem sumTo_rev (g : Nat → Int) (n : Nat) : sumTo (fun j => g (n - 1 - j)) n = sumTo g n := by
  induction n with
  | zero => rfl
  | succ n ih =>
    rw [sumTo_head, sumTo]
    have : sumTo (fun j => g (n + 1 - 1 - (j + 1))) n = sumTo (fun j => g (n - 1 - j)) n := sumTo_congr _ _ _ fun j hj => by
      show g (n + 1 - 1 - (j + 1)) = g (n - 1 - j)
      congr 1; omega
    rw [this, ih]
    simp; omega
theorem sumTo_turn (f : Nat → Int) (n t : Nat) (hn : 0 < n) : sumTo (fun j => f ((j + t) % n)) n = sumTo f n := by
  induction t with
  | zero => exact sumTo_congr _ _ _ fun j hj => by show f ((j + 0) % n) = f j; rw [Nat.add_zero, Nat.mod_eq_of_lt hj]
  | succ t ih =>
    rw [← ih]
    have h1 : sumTo (fun j => f ((j + t) % n)) (n + 1) = f ((0 + t) % n) + sumTo (fun j => f ((j + 1 + t) % n)) n := sumTo_head _ n
    have h2 : sumTo (fun j => f ((j + t) % n)) (n + 1) = sumTo (fun j => f ((j + t) % n)) n + f ((n + t) % n) := rfl
    have h3 : (n + t) % n = (0 + t) % n := by rw [Nat.add_mod_left, Nat.zero_add]
    rw [h3] at h2
    have h4 : sumTo (fun j => f ((j + (t + 1)) % n)) n = sumTo (fun j => f ((j + 1 + t) % n)) n := sumTo_congr _ _ _ fun j _ => by
      show f ((j + (t + 1)) % n) = f ((j + 1 + t) % n)
      congr 2; omega
    rw [h4]
    omega
theorem sumTo_both (f : Nat → Int) (n t : Nat) (hn : 0 < n) : sumTo (fun j => f ((n - 1 - j + t) % n)) n = sumTo f n := by
  rw [← sumTo_turn f n t hn]
  exact sumTo_rev (fun j => f ((j + t) % n)) n
/-- the first k of them, added -/
def acc0 (x : Int) (f : Nat → Int) (k : Nat) : Int := (x + sumTo f k) % 18446744073709551616
theorem acc0_wf (x : Int) (f : Nat → Int) (k : Nat) : 0 ≤ acc0 x f k ∧ acc0 x f k < 18446744073709551616 := by unfold acc0; omega
theorem acc0_zero (x : Int) (f : Nat → Int) (h0 : 0 ≤ x) (h1 : x < 18446744073709551616) : acc0 x f 0 = x := by unfold acc0 sumTo; omega
theorem acc0_succ (x : Int) (f : Nat → Int) (k : Nat) : (acc0 x f k + f k) % 18446744073709551616 = acc0 x f (k + 1) := by unfold acc0; rw [sumTo]; omega

theorem do2_0 {w0 w : World} {p bw bb : Nat} {B : List Int} {x y : Int} (H : Hold w0 w p bw bb [x, y] B) (j a : Int) (j0 : 1 ≤ j) (j1 : j ≤ 4) (a0 : 0 ≤ a) (a1 : a < 18446744073709551616) :
    Calls Try.prog 15 #[.pointer (some ⟨p, 0, none⟩), .agg #[.int .u8 j, .int .i64 0, .int .u64 a, .int .u64 0]] w fun e w' => e = .returned (.tuple #[.int .u64 (toldW j x a), .bool true]) ∧ Hold w0 w' p bw bb [nowW j x a 0, y] B :=
  do_word (L := [x, y]) (k := 0) (x := x) H (by simp) j a 0 j0 j1 a0 a1 (by decide) (by decide)
theorem do2_1 {w0 w : World} {p bw bb : Nat} {B : List Int} {x y : Int} (H : Hold w0 w p bw bb [x, y] B) (j a : Int) (j0 : 1 ≤ j) (j1 : j ≤ 4) (a0 : 0 ≤ a) (a1 : a < 18446744073709551616) :
    Calls Try.prog 15 #[.pointer (some ⟨p, 0, none⟩), .agg #[.int .u8 j, .int .i64 1, .int .u64 a, .int .u64 0]] w fun e w' => e = .returned (.tuple #[.int .u64 (toldW j y a), .bool true]) ∧ Hold w0 w' p bw bb [x, nowW j y a 0] B :=
  do_word (L := [x, y]) (k := 1) (x := y) H (by simp) j a 0 j0 j1 a0 a1 (by decide) (by decide)

set_option maxRecDepth 100000 in
set_option maxHeartbeats 2000000 in
theorem adds_walk (x : Int) (ao : Option Addr) (n cap : Nat) (zs : List Int) (q : Int) (w : World) (x0 : 0 ≤ x) (x1 : x ≤ 18446744073709551615) (q0 : 0 ≤ q) (q1 : q ≤ 255) (R : IsRow .u64 w ao n cap zs) :
    Calls Try.prog 4 #[.int .u64 x, .slice ao n cap, .int .u8 q] w fun e w' => e = .returned (.bool true) ∧ Below w.heap.size w w' := by
  have hlen := R.len
  have RW := R.row
  clear R
  by_cases h40 : 40 < n
  · go_enter Try.func4, Try.ntmps4
    go_wp2_with fail
    refine (awake_any _).mono ?_
    rintro e w6 ⟨rfl, b6⟩
    go_wp2_with fail
    go_ret
    exact ⟨rfl, b6⟩
  · have HNew := Lib.hid (hold_new (Below.refl w.heap.size w) 2 0 (by decide) (by decide))
    obtain ⟨f, hf⟩ : ∃ f : Nat → Int, f = fun j => zs.getD j 0 := ⟨_, rfl⟩
    obtain ⟨g, hg⟩ : ∃ g : Nat → Int, g = fun j => f ((n - 1 - j + q.toNat) % n) := ⟨_, rfl⟩
    have HG := Lib.hid hg
    have HFin : Hid (acc0 x g n = acc0 x f n) := by
      refine Lib.hid ?_
      by_cases hn : n = 0
      · subst hn; rfl
      · unfold acc0
        rw [hg, sumTo_both f n q.toNat (by omega)]
    have RF : ∀ i, i < n → ∃ b off, ao = some ⟨b, off, none⟩ ∧ w.cell? ⟨b, off + i, none⟩ = some (.int .u64 (f i)) ∧ 0 ≤ f i ∧ f i < 18446744073709551616 := by
      intro i hi
      obtain ⟨b, off, h1, h2, h3⟩ := RW i hi
      have h4 := bounds_u64 h3
      rw [hf]
      exact ⟨b, off, h1, h2, h4.1, by have := h4.2; show zs.getD i 0 < _; omega⟩
    have RF := Lib.hid RF
    clear hg hf RW
    go_enter Try.func4, Try.ntmps4
    go_wp2_with fail
    refine HNew.out.mono ?_
    rintro e w1 ⟨p, bw, bb, rfl, H⟩
    clear HNew
    go_wp2_with fail
    refine (do2_0 (x := 0) (y := 0) H 2 x (by decide) (by decide) x0 (by omega)).mono ?_
    rintro e w2 ⟨rfl, H2⟩
    rw [show nowW 2 0 x 0 = x from rfl] at H2
    go_wp2_with fail
    refine (do2_1 H2 2 x (by decide) (by decide) x0 (by omega)).mono ?_
    rintro e w3 ⟨rfl, H3⟩
    rw [show nowW 2 0 x 0 = x from rfl] at H3
    clear H H2
    go_wp2_with fail
    go_loopw [9, 10] (fun s i wr => ∃ k : Nat, k ≤ n ∧ i = .int .i64 k ∧ s = .int .u64 (acc0 x f k) ∧ Hold w wr p bw bb [acc0 x f k, acc0 x g k] []) (fun _ i _ => n - (intOf i).toNat)
    case atStart =>
      refine ⟨0, by omega, rfl, ?_, ?_⟩
      · rw [acc0_zero x f x0 (by omega)]
      · rw [acc0_zero x f x0 (by omega), acc0_zero x g x0 (by omega)]; exact H3
    case round =>
      obtain ⟨k, hk, rfl, rfl, HR⟩ := hrel
      clear H3
      have HA := Lib.hid (acc0_succ x f k)
      have HB := Lib.hid (acc0_succ x g k)
      obtain ⟨u0, u1⟩ := acc0_wf x f k
      by_cases hkn : k < n
      · obtain ⟨b, off, rfl, hc1, v0, v1⟩ := RF.out k hkn
        obtain ⟨m, hm⟩ : ∃ m, m = (n - 1 - k + q.toNat) % n := ⟨_, rfl⟩
        have hmn : m < n := by rw [hm]; exact Nat.mod_lt _ (by omega)
        obtain ⟨b', off', hao, hc2, v2, v3⟩ := RF.out m hmn
        obtain ⟨rfl, rfl⟩ : b' = b ∧ off' = off := by simpa using hao.symm
        have d1 := (HR.below.cell (World.block_lt_of_cell? w _ hc1)).trans hc1
        have hgk : g k = f m := by rw [HG.out, hm]
        rw [hgk] at HB
        have hmi : ((n : Int) - 1 - (k : Int) + q) % (n : Int) = (m : Int) := by
          rw [hm]
          have e : (n : Int) - 1 - (k : Int) + q = ((n - 1 - k + q.toNat : Nat) : Int) := by omega
          rw [e]
          exact (Int.natCast_emod _ _).symm
        have HM := Lib.hid hmi
        clear hao hgk hm hmi
        generalize acc0 x f k = s at *
        generalize acc0 x g k = s' at *
        generalize hs2 : acc0 x f (k + 1) = s2 at *
        generalize hs3 : acc0 x g (k + 1) = s3 at *
        have E2 := Lib.hid hs2
        have E3 := Lib.hid hs3
        clear hs2 hs3
        generalize hfk : f k = v at *
        generalize hfm : f m = v' at *
        clear hfk hfm
        go_wp2_with fail
        refine (do2_0 HR 4 v (by decide) (by decide) v0 v1).mono ?_
        rintro e w4 ⟨rfl, H4⟩
        rw [show nowW 4 s v 0 = s2 from HA.out] at H4
        rw [show toldW 4 s v = s from rfl]
        have d1 := (H4.below.cell (World.block_lt_of_cell? w _ hc1)).trans hc1
        have d2 := (H4.below.cell (World.block_lt_of_cell? w _ hc2)).trans hc2
        have hA : IntKind.u64.wrap (s + v) = s2 := HA.out
        have hM := HM.out
        go_wp2_with fail
        refine (do2_1 H4 4 v' (by decide) (by decide) v2 v3).mono ?_
        rintro e w5 ⟨rfl, H5⟩
        rw [show nowW 4 s' v' 0 = s3 from HB.out] at H5
        clear hA hM d1 d2
        go_wp2_with fail
        go_roundw
        case rel => exact ⟨k + 1, by omega, by go_num, by rw [E2.out], by rw [E2.out, E3.out]; exact H5⟩
        case measure => simp [intOf]; omega
      · obtain rfl : k = n := by omega
        rw [HFin.out] at HR
        clear HA HB RF HG HFin
        generalize acc0 x f k = s at *
        go_wp2_with fail
        refine (word_word (L := [s, s]) (k := 0) (x := s) HR (by simp)).mono ?_
        rintro e w4 ⟨rfl, H4⟩
        go_wp2_with fail
        refine (word_word (L := [s, s]) (k := 1) (x := s) H4 (by simp)).mono ?_
        rintro e w5 ⟨rfl, H5⟩
        go_wp2_with fail
        refine (awake_any _).mono ?_
        rintro e y7 ⟨rfl, bb7⟩
        go_wp2_with fail
        go_ret
        exact ⟨rfl, bnext H5.below bb7⟩
end Go.Proofs.Ytmdagppeeejikaa
