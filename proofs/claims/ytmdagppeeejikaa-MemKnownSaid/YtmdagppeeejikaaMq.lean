/- The law MemOwner answers true. Condition: the numbers fit their kinds. -/
import Derived.Test.YtmdagppeeejikaaMp
namespace Go.Proofs.Ytmdagppeeejikaa
open Go.RowKit
set_option linter.unusedVariables false

theorem do1 {w0 w : World} {p bw bb : Nat} {B : List Int} {x : Int} (H : Hold w0 w p bw bb [x] B) (j a b : Int) (j0 : 1 ≤ j) (j1 : j ≤ 4) (a0 : 0 ≤ a) (a1 : a < 18446744073709551616) (b0 : 0 ≤ b) (b1 : b < 18446744073709551616) :
    Calls Try.prog 15 #[.pointer (some ⟨p, 0, none⟩), .agg #[.int .u8 j, .int .i64 0, .int .u64 a, .int .u64 b]] w fun e w' => e = .returned (.tuple #[.int .u64 (toldW j x a), .bool true]) ∧ Hold w0 w' p bw bb [nowW j x a b] B :=
  do_word (L := [x]) (k := 0) (x := x) H (by simp) j a b j0 j1 a0 a1 b0 b1
theorem word1 {w0 w : World} {p bw bb : Nat} {B : List Int} {x : Int} (H : Hold w0 w p bw bb [x] B) :
    Calls Try.prog 16 #[.pointer (some ⟨p, 0, none⟩), .int .i64 0] w fun e w' => e = .returned (.int .u64 x) ∧ Hold w0 w' p bw bb [x] B :=
  word_word (L := [x]) (k := 0) (x := x) H (by simp)

set_option maxRecDepth 100000 in
set_option maxHeartbeats 2000000 in
theorem owner_walk (ao : Option Addr) (n cap : Nat) (zs : List Int) (w : World) (R : IsRow .u8 w ao n cap zs) :
    Calls Try.prog 5 #[.slice ao n cap] w fun e w' => e = .returned (.bool true) ∧ Below w.heap.size w w' := by
  have hlen := R.len
  have RW := Lib.hid R.row
  clear R
  by_cases h60 : 60 < n
  · go_enter Try.func5, Try.ntmps5
    go_wp2_with fail
    refine (awake_any _).mono ?_
    rintro e w6 ⟨rfl, b6⟩
    go_wp2_with fail
    go_ret
    exact ⟨rfl, b6⟩
  · have HNew := Lib.hid (hold_new (Below.refl w.heap.size w) 1 0 (by decide) (by decide))
    go_enter Try.func5, Try.ntmps5
    go_wp2_with fail
    refine HNew.out.mono ?_
    rintro e w1 ⟨p, bw, bb, rfl, H⟩
    clear HNew
    go_wp2_with fail
    go_loopw [5, 6] (fun s i wr => ∃ (k : Nat) (o : Int), k ≤ n ∧ i = .int .i64 k ∧ s = .int .u64 o ∧ 0 ≤ o ∧ o ≤ 8 ∧ Hold w wr p bw bb [o] []) (fun _ i _ => n - (intOf i).toNat)
    case atStart => exact ⟨0, 0, by omega, rfl, rfl, by omega, by omega, H⟩
    case round =>
      clear H
      obtain ⟨k, o, hk, rfl, rfl, o0, o1, H⟩ := hrel
      by_cases hkn : k < n
      · obtain ⟨b, off, rfl, hc, hwf⟩ := RW.out k hkn
        have d1 := (H.below.cell (World.block_lt_of_cell? w _ hc)).trans hc
        obtain ⟨x0, x1⟩ := bounds_u8 hwf
        clear hwf hc
        generalize zs.getD k 0 = x at *
        obtain ⟨u, hu⟩ : ∃ u, x % 8 + 1 = u := ⟨_, rfl⟩
        have u0 : 0 ≤ u := by omega
        have u1 : u < 18446744073709551616 := by omega
        have u2 : 1 ≤ u := by omega
        have u3 : u ≤ 8 := by omega
        have hu2 : IntKind.u64.wrap (x % 8 + 1) = u := by rw [hu]; show u % 18446744073709551616 = u; omega
        have hu3 : IntKind.u64.wrap u = u := by show u % 18446744073709551616 = u; omega
        have huz : (u == 0) = false := by simp; omega
        by_cases hx : x < 128
        · by_cases ho : o = 0
          · subst ho
            go_wp2_with fail
            refine (do1 H 3 0 u (by decide) (by decide) (by decide) (by decide) u0 u1).mono ?_
            rintro e w4 ⟨rfl, H4⟩
            rw [show nowW 3 0 0 u = u from by simp [nowW]] at H4
            rw [show toldW 3 0 0 = 1 from by simp [toldW]]
            go_wp2_with fail
            refine (word1 H4).mono ?_
            rintro e w5 ⟨rfl, H5⟩
            go_wp2_with fail
            go_roundw
            case rel => exact ⟨k + 1, u, by omega, by go_num, rfl, by omega, by omega, H5⟩
            case measure => simp [intOf]; omega
          · have hne := Lib.hid ho
            have hne2 : Hid ((o == 0) = false) := Lib.hid (by simpa using ho)
            clear ho
            go_wp2_with fail
            refine (do1 H 3 0 u (by decide) (by decide) (by decide) (by decide) u0 u1).mono ?_
            rintro e w4 ⟨rfl, H4⟩
            rw [show nowW 3 o 0 u = o from by simp [nowW, hne.out]] at H4
            rw [show toldW 3 o 0 = 0 from by simp [toldW, hne.out]]
            have hz := hne2.out
            go_wp2_with fail
            refine (word1 H4).mono ?_
            rintro e w5 ⟨rfl, H5⟩
            go_wp2_with fail
            go_roundw
            case rel => exact ⟨k + 1, o, by omega, by go_num, rfl, by omega, by omega, H5⟩
            case measure => simp [intOf]; omega
        · by_cases ho : o = u
          · subst ho
            go_wp2_with fail
            refine (do1 H 3 o 0 (by decide) (by decide) u0 u1 (by decide) (by decide)).mono ?_
            rintro e w4 ⟨rfl, H4⟩
            rw [show nowW 3 o o 0 = 0 from by simp [nowW]] at H4
            rw [show toldW 3 o o = 1 from by simp [toldW]]
            go_wp2_with fail
            refine (word1 H4).mono ?_
            rintro e w5 ⟨rfl, H5⟩
            go_wp2_with fail
            go_roundw
            case rel => exact ⟨k + 1, 0, by omega, by go_num, rfl, by omega, by omega, H5⟩
            case measure => simp [intOf]; omega
          · have hne := Lib.hid ho
            have hne2 : Hid ((o == u) = false) := Lib.hid (by simpa using ho)
            clear ho
            go_wp2_with fail
            refine (do1 H 3 u 0 (by decide) (by decide) u0 u1 (by decide) (by decide)).mono ?_
            rintro e w4 ⟨rfl, H4⟩
            rw [show nowW 3 o u 0 = o from by simp [nowW, hne.out]] at H4
            rw [show toldW 3 o u = 0 from by simp [toldW, hne.out]]
            have hz := hne2.out
            go_wp2_with fail
            refine (word1 H4).mono ?_
            rintro e w5 ⟨rfl, H5⟩
            go_wp2_with fail
            go_roundw
            case rel => exact ⟨k + 1, o, by omega, by go_num, rfl, by omega, by omega, H5⟩
            case measure => simp [intOf]; omega
      · obtain rfl : k = n := by omega
        go_wp2_with fail
        refine (awake_any _).mono ?_
        rintro e y7 ⟨rfl, bb7⟩
        go_wp2_with fail
        go_ret
        exact ⟨rfl, bnext H.below bb7⟩
end Go.Proofs.Ytmdagppeeejikaa
