/- The law MemOnce answers true. Condition: the numbers fit their kinds. -/
import Derived.Test.YtmdagppeeejikaaMe
import Derived.Deep.Cut
namespace Go.Proofs.Ytmdagppeeejikaa
open Go.RowKit
set_option linter.unusedVariables false

theorem zeros_len (n : Nat) : (zeros n).length = n := by simp [zeros]
theorem at0_set (L : List Int) (k : Nat) (v : Int) (h : k < L.length) : at0 (L.set k v) k = v := by
  simp [at0, h]
theorem inW_yes (L : List Int) (j : Int) (k : Nat) (h : k < L.length) (j0 : 1 ≤ j) (j1 : j ≤ 4) : inW L j k = true := by simp [inW]; omega
theorem wD_yes (L : List Int) (j : Int) (k : Nat) (a b : Int) (h : k < L.length) (j0 : 1 ≤ j) (j1 : j ≤ 4) : wD L j k a b = L.set k (nowW j (L.getD k 0) a b) := by
  simp [wD, inW_yes L j k h j0 j1]
theorem tD_yes (L B : List Int) (j : Int) (k : Nat) (a : Int) (h : k < L.length) (j0 : 1 ≤ j) (j1 : j ≤ 4) : tD L B j k a = toldW j (L.getD k 0) a := by
  simp [tD, inW_yes L j k h j0 j1]
theorem okD_yes (L B : List Int) (j : Int) (k : Nat) (h : k < L.length) (j0 : 1 ≤ j) (j1 : j ≤ 4) : okD L B j k = true := by
  simp [okD, inW_yes L j k h j0 j1]
theorem getD_set (L : List Int) (k : Nat) (v : Int) (h : k < L.length) : (L.set k v).getD k 0 = v := by simp [List.getD, h]
/-- an access of the one word that holds x -/
theorem do_word {w0 w : World} {p bw bb : Nat} {L B : List Int} {k : Nat} {x : Int} (H : Hold w0 w p bw bb (L.set k x) B) (h : k < L.length) (j a b : Int) (j0 : 1 ≤ j) (j1 : j ≤ 4) (a0 : 0 ≤ a) (a1 : a < 18446744073709551616) (b0 : 0 ≤ b) (b1 : b < 18446744073709551616) :
    Calls Try.prog 15 #[.pointer (some ⟨p, 0, none⟩), .agg #[.int .u8 j, .int .i64 k, .int .u64 a, .int .u64 b]] w fun e w' => e = .returned (.tuple #[.int .u64 (toldW j x a), .bool true]) ∧ Hold w0 w' p bw bb (L.set k (nowW j x a b)) B := by
  have h' : k < (L.set k x).length := by simpa using h
  have := hold_do H j k a b (by omega) (by omega) a0 a1 b0 b1
  rw [wD_yes _ _ _ _ _ h' j0 j1, tD_yes _ _ _ _ _ h' j0 j1, okD_yes _ _ _ _ h' j0 j1, bD_get _ _ _ _ (by omega), getD_set _ _ _ h, List.set_set] at this
  exact this
theorem word_word {w0 w : World} {p bw bb : Nat} {L B : List Int} {k : Nat} {x : Int} (H : Hold w0 w p bw bb (L.set k x) B) (h : k < L.length) :
    Calls Try.prog 16 #[.pointer (some ⟨p, 0, none⟩), .int .i64 k] w fun e w' => e = .returned (.int .u64 x) ∧ Hold w0 w' p bw bb (L.set k x) B := by
  have := hold_word H k
  rw [at0_set _ _ _ h] at this
  exact this

set_option maxRecDepth 100000 in
set_option maxHeartbeats 2000000 in
theorem once_main (q t a b c r : Int) (N : Nat) (w : World) (q0 : 0 ≤ q) (q1 : q ≤ 255) (hN : q % 40 + 1 = (N : Int)) (n0 : 1 ≤ N) (n1 : N ≤ 40) (hr : t.tmod N = r) (r0 : -(N : Int) < r) (r1 : r < N)
    (t0 : -9223372036854775808 ≤ t) (t1 : t ≤ 9223372036854775807) (a0 : 0 ≤ a) (a1 : a < 18446744073709551616) (b0 : 0 ≤ b) (b1 : b < 18446744073709551616) (c0 : 0 ≤ c) (c1 : c < 18446744073709551616) :
    Calls Try.prog 3 #[.int .u8 q, .int .i64 t, .int .u64 a, .int .u64 b, .int .u64 c] w fun e w' => e = .returned (.bool true) ∧ Below w.heap.size w w' := by
  have HNew := Lib.hid (hold_new (Below.refl w.heap.size w) N 1 (by omega) (by decide))
  go_enter Try.func3, Try.ntmps3
  go_wp2_with fail
  refine HNew.out.mono ?_
  rintro e w1 ⟨p, bw, bb, rfl, H⟩
  clear HNew
  have z0 : ∀ k, zeros N = (zeros N).set k 0 := by
    intro k
    unfold zeros
    simp
  go_upto_region 6 with fail
  by_cases hneg : r < 0
  · obtain ⟨k, hk'⟩ : ∃ k : Nat, r + (N : Int) = k := ⟨(r + N).toNat, by omega⟩
    have hk : k < N := by omega
    go_upto_region 8 with fail
    clear hN hr hk'
    have z0 := z0 k
    by_cases hab : a = b
    · subst hab
      have hkz : k < (zeros N).length := by rw [zeros_len]; exact hk
      rw [z0] at H
      go_wp2_with fail
      refine (do_word H hkz 2 a 0 (by decide) (by decide) a0 a1 (by decide) (by decide)).mono ?_
      rintro e y1 ⟨rfl, H1⟩
      rw [show nowW 2 0 a 0 = a from rfl] at H1
      go_wp2_with fail
      refine (do_word H1 hkz 1 0 0 (by decide) (by decide) (by decide) (by decide) (by decide) (by decide)).mono ?_
      rintro e y2 ⟨rfl, H2⟩
      rw [show nowW 1 a 0 0 = a from rfl] at H2
      rw [show toldW 1 a 0 = a from rfl]
      go_wp2_with fail
      refine (do_word H2 hkz 3 a c (by decide) (by decide) a0 a1 c0 c1).mono ?_
      rintro e y3 ⟨rfl, H3⟩
      rw [show nowW 3 a a c = c from by simp [nowW]] at H3
      rw [show toldW 3 a a = 1 from by simp [toldW]]
      go_wp2_with fail
      refine (word_word H3 hkz).mono ?_
      rintro e y4 ⟨rfl, H4⟩
      go_wp2_with fail
      refine (do_word H4 hkz 4 a 0 (by decide) (by decide) a0 a1 (by decide) (by decide)).mono ?_
      rintro e y5 ⟨rfl, H5⟩
      rw [show nowW 4 c a 0 = (c + a) % 18446744073709551616 from rfl] at H5
      rw [show toldW 4 c a = c from rfl]
      
      
      go_wp2_with fail
      refine (word_word H5 hkz).mono ?_
      rintro e y6 ⟨rfl, H6⟩
      go_wp2_with fail
      refine (awake_any _).mono ?_
      rintro e y7 ⟨rfl, bb7⟩
      go_wp2_with fail
      go_ret
      exact ⟨rfl, bnext H6.below bb7⟩
    · have hab := Lib.hid hab
      have hkz : k < (zeros N).length := by rw [zeros_len]; exact hk
      rw [z0] at H
      go_wp2_with fail
      refine (do_word H hkz 2 a 0 (by decide) (by decide) a0 a1 (by decide) (by decide)).mono ?_
      rintro e y1 ⟨rfl, H1⟩
      rw [show nowW 2 0 a 0 = a from rfl] at H1
      go_wp2_with fail
      refine (do_word H1 hkz 1 0 0 (by decide) (by decide) (by decide) (by decide) (by decide) (by decide)).mono ?_
      rintro e y2 ⟨rfl, H2⟩
      rw [show nowW 1 a 0 0 = a from rfl] at H2
      rw [show toldW 1 a 0 = a from rfl]
      go_wp2_with fail
      refine (do_word H2 hkz 3 b c (by decide) (by decide) b0 b1 c0 c1).mono ?_
      rintro e y3 ⟨rfl, H3⟩
      rw [show nowW 3 a b c = a from by simp [nowW, hab.out]] at H3
      rw [show toldW 3 a b = 0 from by simp [toldW, hab.out]]
      go_wp2_with fail
      refine (word_word H3 hkz).mono ?_
      rintro e y4 ⟨rfl, H4⟩
      go_wp2_with fail
      refine (do_word H4 hkz 4 b 0 (by decide) (by decide) b0 b1 (by decide) (by decide)).mono ?_
      rintro e y5 ⟨rfl, H5⟩
      rw [show nowW 4 a b 0 = (a + b) % 18446744073709551616 from rfl] at H5
      rw [show toldW 4 a b = a from rfl]
      have hab1 : (a == b) = false := by simpa using hab.out
      clear hab
      go_wp2_with fail
      refine (word_word H5 hkz).mono ?_
      rintro e y6 ⟨rfl, H6⟩
      go_wp2_with fail
      refine (awake_any _).mono ?_
      rintro e y7 ⟨rfl, bb7⟩
      go_wp2_with fail
      go_ret
      exact ⟨rfl, bnext H6.below bb7⟩
  · obtain ⟨k, rfl⟩ : ∃ k : Nat, r = k := ⟨r.toNat, by omega⟩
    have hk : k < N := by omega
    go_upto_region 8 with fail
    clear hN hr
    have z0 := z0 k
    by_cases hab : a = b
    · subst hab
      have hkz : k < (zeros N).length := by rw [zeros_len]; exact hk
      rw [z0] at H
      go_wp2_with fail
      refine (do_word H hkz 2 a 0 (by decide) (by decide) a0 a1 (by decide) (by decide)).mono ?_
      rintro e y1 ⟨rfl, H1⟩
      rw [show nowW 2 0 a 0 = a from rfl] at H1
      go_wp2_with fail
      refine (do_word H1 hkz 1 0 0 (by decide) (by decide) (by decide) (by decide) (by decide) (by decide)).mono ?_
      rintro e y2 ⟨rfl, H2⟩
      rw [show nowW 1 a 0 0 = a from rfl] at H2
      rw [show toldW 1 a 0 = a from rfl]
      go_wp2_with fail
      refine (do_word H2 hkz 3 a c (by decide) (by decide) a0 a1 c0 c1).mono ?_
      rintro e y3 ⟨rfl, H3⟩
      rw [show nowW 3 a a c = c from by simp [nowW]] at H3
      rw [show toldW 3 a a = 1 from by simp [toldW]]
      go_wp2_with fail
      refine (word_word H3 hkz).mono ?_
      rintro e y4 ⟨rfl, H4⟩
      go_wp2_with fail
      refine (do_word H4 hkz 4 a 0 (by decide) (by decide) a0 a1 (by decide) (by decide)).mono ?_
      rintro e y5 ⟨rfl, H5⟩
      rw [show nowW 4 c a 0 = (c + a) % 18446744073709551616 from rfl] at H5
      rw [show toldW 4 c a = c from rfl]
      
      
      go_wp2_with fail
      refine (word_word H5 hkz).mono ?_
      rintro e y6 ⟨rfl, H6⟩
      go_wp2_with fail
      refine (awake_any _).mono ?_
      rintro e y7 ⟨rfl, bb7⟩
      go_wp2_with fail
      go_ret
      exact ⟨rfl, bnext H6.below bb7⟩
    · have hab := Lib.hid hab
      have hkz : k < (zeros N).length := by rw [zeros_len]; exact hk
      rw [z0] at H
      go_wp2_with fail
      refine (do_word H hkz 2 a 0 (by decide) (by decide) a0 a1 (by decide) (by decide)).mono ?_
      rintro e y1 ⟨rfl, H1⟩
      rw [show nowW 2 0 a 0 = a from rfl] at H1
      go_wp2_with fail
      refine (do_word H1 hkz 1 0 0 (by decide) (by decide) (by decide) (by decide) (by decide) (by decide)).mono ?_
      rintro e y2 ⟨rfl, H2⟩
      rw [show nowW 1 a 0 0 = a from rfl] at H2
      rw [show toldW 1 a 0 = a from rfl]
      go_wp2_with fail
      refine (do_word H2 hkz 3 b c (by decide) (by decide) b0 b1 c0 c1).mono ?_
      rintro e y3 ⟨rfl, H3⟩
      rw [show nowW 3 a b c = a from by simp [nowW, hab.out]] at H3
      rw [show toldW 3 a b = 0 from by simp [toldW, hab.out]]
      go_wp2_with fail
      refine (word_word H3 hkz).mono ?_
      rintro e y4 ⟨rfl, H4⟩
      go_wp2_with fail
      refine (do_word H4 hkz 4 b 0 (by decide) (by decide) b0 b1 (by decide) (by decide)).mono ?_
      rintro e y5 ⟨rfl, H5⟩
      rw [show nowW 4 a b 0 = (a + b) % 18446744073709551616 from rfl] at H5
      rw [show toldW 4 a b = a from rfl]
      have hab1 : (a == b) = false := by simpa using hab.out
      clear hab
      go_wp2_with fail
      refine (word_word H5 hkz).mono ?_
      rintro e y6 ⟨rfl, H6⟩
      go_wp2_with fail
      refine (awake_any _).mono ?_
      rintro e y7 ⟨rfl, bb7⟩
      go_wp2_with fail
      go_ret
      exact ⟨rfl, bnext H6.below bb7⟩

theorem once_walk (q t a b c : Int) (w : World) (q0 : 0 ≤ q) (q1 : q ≤ 255) (t0 : -9223372036854775808 ≤ t) (t1 : t ≤ 9223372036854775807) (a0 : 0 ≤ a) (a1 : a ≤ 18446744073709551615) (b0 : 0 ≤ b) (b1 : b ≤ 18446744073709551615) (c0 : 0 ≤ c) (c1 : c ≤ 18446744073709551615) :
    Calls Try.prog 3 #[.int .u8 q, .int .i64 t, .int .u64 a, .int .u64 b, .int .u64 c] w fun e w' => e = .returned (.bool true) ∧ Below w.heap.size w w' := by
  have h1 : ((q % 40 + 1).toNat : Int) = q % 40 + 1 := by omega
  have hp : (0 : Int) < ((q % 40 + 1).toNat : Int) := by omega
  have h2 := Int.tmod_lt_of_pos t hp
  have h3 := Int.lt_tmod_of_pos t hp
  exact once_main q t a b c _ (q % 40 + 1).toNat w q0 q1 h1.symm (by omega) (by omega) rfl h3 h2 t0 t1 a0 (by omega) b0 (by omega) c0 (by omega)
end Go.Proofs.Ytmdagppeeejikaa
