/- The law MemKnown answers true. No condition. -/
import Derived.Test.YtmdagppeeejikaaQc
namespace Go.Proofs.Ytmdagppeeejikaa
open Go.RowKit
set_option linter.unusedVariables false
set_option linter.unusedSimpArgs false

theorem GM.notin {w : World} {p base x : Nat} {v1 v2 : Value} {W B : List Int} {cs : Array Value} (M : GM w p base v1 v2 W B) (A : At w x cs 78) : x ∉ own2 v1 v2 := by
  intro hx
  simp only [own2, List.mem_append, Option.mem_toList] at hx
  rcases hx with h | h
  · exact own_off M.ref.words A (by decide) x h rfl
  · exact own_off M.ref.bytes A (by decide) x h rfl
theorem At.gdo {w w' : World} {p base x : Nat} {v1 v2 : Value} {W B W' B' : List Int} {cs : Array Value} (A : At w x cs 78) (M : GM w p base v1 v2 W B) (D : GDo p base v1 v2 W' B' w w') : At w' x cs 78 := A.ch D.ch (M.notin A)
/-- a new memory: how many words and bytes -/
def NewTop (n k : Nat) (w : World) (e : Ending) (w' : World) : Prop := ∃ p a c, e = .returned (.tuple #[.pointer (some ⟨p, 0, none⟩), .int .i64 0]) ∧ At w' p #[.slice a n n, .slice c k k] 78 ∧ Below w.heap.size w w'
theorem new_top (n k : Nat) (w : World) (h1 : n ≤ 2097152) (h2 : k ≤ 1048576) : Calls Try.prog 14 #[.int .i64 n, .int .i64 k] w (NewTop n k w) :=
  (new_yes n k w h1 h2).mono fun _ _ ⟨p, bw, bb, he, m, b, _⟩ => ⟨p, _, _, he, by have := m.top; rw [zeros_len, zeros_len] at this; exact this, b⟩
theorem same_nil2 {p n k c1 c2 : Nat} {a1 a2 : Option Addr} (w : World) (A : At w p #[.slice a1 n c1, .slice a2 k c2] 78) (l1 : n ≤ 2097152) (l2 : k ≤ 1048576) :
    Calls Try.prog 36 #[.pointer none, .pointer (some ⟨p, 0, none⟩)] w fun e w' => e = .returned (.bool (decide (n + k = 0))) ∧ w' = w := by
  have C1 := Lib.hid (words_any w p _ n c1 a1 A)
  have C2 := Lib.hid (bytes_any w p _ k c2 a2 A)
  clear A
  go_enter Try.func36, Try.ntmps36
  go_wp2_with fail
  refine (words_nil _).mono ?_
  rintro e w1 ⟨rfl, hw⟩
  have hw := hw.symm
  subst hw
  go_wp2_with fail
  refine (bytes_nil _).mono ?_
  rintro e w1 ⟨rfl, hw⟩
  have hw := hw.symm
  subst hw
  go_wp2_with fail
  refine C1.out.mono ?_
  rintro e w1 ⟨rfl, hw⟩
  have hw := hw.symm
  subst hw
  go_wp2_with fail
  refine C2.out.mono ?_
  rintro e w1 ⟨rfl, hw⟩
  have hw := hw.symm
  subst hw
  by_cases h : n + k = 0
  · obtain rfl : n = 0 := by omega
    obtain rfl : k = 0 := by omega
    go_wp2_with fail
    go_ret
    exact ⟨rfl, rfl⟩
  · have h1 : ((n : Int) + (k : Int) == 0) = false := by simp; omega
    have h2 := Lib.hid (decide_eq_false h)
    clear h
    go_wp2_with fail
    go_ret
    exact ⟨by rw [h2.out]; rfl, rfl⟩
theorem big_new (w : World) : Calls Try.prog 14 #[.int .i64 2097152, .int .i64 1048576] w (NewTop 2097152 1048576 w) := new_top 2097152 1048576 w (Nat.le_refl _) (Nat.le_refl _)

set_option maxRecDepth 100000 in
set_option maxHeartbeats 16000000 in
theorem mknown_walk (w : World) : Calls Try.prog 9 #[] w fun e w' => e = .returned (.bool true) ∧ Below w.heap.size w w' := by
  have HBig := Lib.hid (fun w => big_new w)
  go_enter Try.func9, Try.ntmps9
  go_wp2_with fail
  refine (new_no (-1) 0 _ (by omega)).mono ?_
  rintro e w1 ⟨rfl, hw⟩
  have hw := hw.symm
  subst hw
  go_wp2_with fail
  refine (new_no 0 (-1) _ (by omega)).mono ?_
  rintro e w1 ⟨rfl, hw⟩
  have hw := hw.symm
  subst hw
  go_wp2_with fail
  refine (new_no 2097153 0 _ (by omega)).mono ?_
  rintro e w1 ⟨rfl, hw⟩
  have hw := hw.symm
  subst hw
  go_wp2_with fail
  refine (new_no 0 1048577 _ (by omega)).mono ?_
  rintro e w1 ⟨rfl, hw⟩
  have hw := hw.symm
  subst hw
  go_wp2_with fail
  refine (HBig.out _).mono ?_
  rintro e w1 ⟨pb, ab, cb, rfl, A0, b0⟩
  clear HBig
  obtain ⟨NB, hNB⟩ : ∃ NB : Nat, NB = 2097152 := ⟨_, rfl⟩
  obtain ⟨KB, hKB⟩ : ∃ KB : Nat, KB = 1048576 := ⟨_, rfl⟩
  rw [← hNB, ← hKB] at A0
  have hNI : (NB : Int) = 2097152 := by omega
  have hKI : (KB : Int) = 1048576 := by omega
  clear hNB hKB
  have hn1 : ((NB : Int) != 2097152) = false := by simp; omega
  have hk1 : ((KB : Int) != 1048576) = false := by simp; omega
  clear hNI hKI
  go_wp2_with fail
  refine (new_yes 4 1 _ (by decide) (by decide)).mono ?_
  rintro e w2 ⟨p, bw, bb, rfl, M0, b2, l1, l2, l3⟩
  have A1 := A0.below b2
  have B0 := bnext b0 b2
  have z0 := b0.size
  obtain ⟨v1, v2, M⟩ : ∃ v1 v2, GM w2 p w.heap.size v1 v2 [0, 0, 0, 0] [0] := ⟨_, _, GM.of_mem M0 (by omega) (by omega)⟩
  clear M0 A0 b0 b2 l1 l2 l3 z0
  go_wp2_with fail
  refine (words_any _ pb _ NB NB ab A1).mono ?_
  rintro e w3 ⟨rfl, hw⟩
  have hw := hw.symm
  subst hw
  go_wp2_with fail
  refine (bytes_any _ pb _ KB KB cb A1).mono ?_
  rintro e w3 ⟨rfl, hw⟩
  have hw := hw.symm
  subst hw
  clear A1
  go_wp2_with fail
  refine (g_do 7 0 0 0 _ M (by decide) (by decide) (by decide) (by decide) (by decide) (by decide)).mono ?_
  rintro e w4 ⟨rfl, D⟩
  replace B0 := Ch.below B0 D.ch B0.size (fun k hk => (M.own k hk).1)
  replace M := D.mem
  clear D
  rw [show wD [0, 0, 0, 0] 7 0 0 0 = [0, 0, 0, 0] from by decide, show bD [0] 7 0 0 = [0] from by decide] at M
  rw [show okD [0, 0, 0, 0] [0] 7 0 = false from by decide, show tD [0, 0, 0, 0] [0] 7 0 0 = 0 from by decide]
  go_wp2_with fail
  refine (g_do 0 0 0 0 _ M (by decide) (by decide) (by decide) (by decide) (by decide) (by decide)).mono ?_
  rintro e w4 ⟨rfl, D⟩
  replace B0 := Ch.below B0 D.ch B0.size (fun k hk => (M.own k hk).1)
  replace M := D.mem
  clear D
  rw [show wD [0, 0, 0, 0] 0 0 0 0 = [0, 0, 0, 0] from by decide, show bD [0] 0 0 0 = [0] from by decide] at M
  rw [show okD [0, 0, 0, 0] [0] 0 0 = false from by decide, show tD [0, 0, 0, 0] [0] 0 0 0 = 0 from by decide]
  go_wp2_with fail
  refine (g_do 2 (-1) 0 0 _ M (by decide) (by decide) (by decide) (by decide) (by decide) (by decide)).mono ?_
  rintro e w4 ⟨rfl, D⟩
  replace B0 := Ch.below B0 D.ch B0.size (fun k hk => (M.own k hk).1)
  replace M := D.mem
  clear D
  rw [show wD [0, 0, 0, 0] 2 (-1) 0 0 = [0, 0, 0, 0] from by decide, show bD [0] 2 (-1) 0 = [0] from by decide] at M
  rw [show okD [0, 0, 0, 0] [0] 2 (-1) = false from by decide, show tD [0, 0, 0, 0] [0] 2 (-1) 0 = 0 from by decide]
  go_wp2_with fail
  refine (g_do 6 1 0 0 _ M (by decide) (by decide) (by decide) (by decide) (by decide) (by decide)).mono ?_
  rintro e w4 ⟨rfl, D⟩
  replace B0 := Ch.below B0 D.ch B0.size (fun k hk => (M.own k hk).1)
  replace M := D.mem
  clear D
  rw [show wD [0, 0, 0, 0] 6 1 0 0 = [0, 0, 0, 0] from by decide, show bD [0] 6 1 0 = [0] from by decide] at M
  rw [show okD [0, 0, 0, 0] [0] 6 1 = false from by decide, show tD [0, 0, 0, 0] [0] 6 1 0 = 0 from by decide]
  go_wp2_with fail
  refine (g_tells 2 3 8 0 0 _ M (by decide) (by decide) (by decide) (by decide) (by decide) (by decide)).mono ?_
  rintro e w4 ⟨rfl, D⟩
  replace B0 := Ch.below B0 D.ch B0.size (fun k hk => (M.own k hk).1)
  replace M := D.mem
  clear D
  rw [show wD [0, 0, 0, 0] 2 3 8 0 = [0, 0, 0, 8] from by decide, show bD [0] 2 3 8 = [0] from by decide] at M
  rw [show (okD [0, 0, 0, 0] [0] 2 3 && tD [0, 0, 0, 0] [0] 2 3 8 == 0) = true from by decide]
  go_wp2_with fail
  refine (g_tells 4 3 18446744073709551615 0 8 _ M (by decide) (by decide) (by decide) (by decide) (by decide) (by decide)).mono ?_
  rintro e w4 ⟨rfl, D⟩
  replace B0 := Ch.below B0 D.ch B0.size (fun k hk => (M.own k hk).1)
  replace M := D.mem
  clear D
  rw [show wD [0, 0, 0, 8] 4 3 18446744073709551615 0 = [0, 0, 0, 7] from by decide, show bD [0] 4 3 18446744073709551615 = [0] from by decide] at M
  rw [show (okD [0, 0, 0, 8] [0] 4 3 && tD [0, 0, 0, 8] [0] 4 3 18446744073709551615 == 8) = true from by decide]
  go_wp2_with fail
  refine (g_copy _ M).mono ?_
  rintro e w5 ⟨pn, u1, u2, rfl, C, bc, lc⟩
  have T := TwoM.made M B0 C bc lc
  clear M B0 C bc lc
  go_wp2_with fail
  refine (g_tells 2 0 5 0 0 _ T.c (by decide) (by decide) (by decide) (by decide) (by decide) (by decide)).mono ?_
  rintro e w6 ⟨rfl, D⟩
  replace T := T.stepC D
  clear D
  rw [show wD [0, 0, 0, 7] 2 0 5 0 = [5, 0, 0, 7] from by decide, show bD [0] 2 0 5 = [0] from by decide] at T
  go_wp2_with fail
  refine (do_nil1 0 0 0 _).mono ?_
  rintro e w7 ⟨rfl, b⟩
  replace T := T.after b
  clear b
  go_wp2_with fail
  refine (new_top 0 0 _ (by decide) (by decide)).mono ?_
  rintro e w8 ⟨pe, ae, ce, rfl, E, b⟩
  replace T := T.after b
  clear b
  go_wp2_with fail
  refine (g_word 3 _ T.m).mono ?_
  rintro e w9 ⟨rfl, D⟩
  replace E := E.gdo T.m D
  replace T := T.stepM D
  clear D
  rw [show at0 [0, 0, 0, 7] 3 = 7 from by decide]
  go_wp2_with fail
  refine (g_word 0 _ T.m).mono ?_
  rintro e w9 ⟨rfl, D⟩
  replace E := E.gdo T.m D
  replace T := T.stepM D
  clear D
  rw [show at0 [0, 0, 0, 7] 0 = 0 from by decide]
  go_wp2_with fail
  refine (g_word 0 _ T.c).mono ?_
  rintro e w9 ⟨rfl, D⟩
  replace E := E.gdo T.c D
  replace T := T.stepC D
  clear D
  rw [show at0 [5, 0, 0, 7] 0 = 5 from by decide]
  go_wp2_with fail
  refine (g_word 9 _ T.m).mono ?_
  rintro e w9 ⟨rfl, D⟩
  replace E := E.gdo T.m D
  replace T := T.stepM D
  clear D
  rw [show at0 [0, 0, 0, 7] 9 = 0 from by decide]
  go_wp2_with fail
  refine (g_byte (-1) _ T.m).mono ?_
  rintro e w9 ⟨rfl, D⟩
  replace E := E.gdo T.m D
  replace T := T.stepM D
  clear D
  rw [show at0 [0] (-1) = 0 from by decide]
  go_wp2_with fail
  refine (g_copy _ T.m).mono ?_
  rintro e w10 ⟨pc, x1, x2, rfl, C, bc, lc⟩
  replace T := T.after bc
  replace E := E.below bc
  clear bc lc
  go_wp2_with fail
  refine (g_same _ T.m C).mono ?_
  rintro e w11 ⟨rfl, b⟩
  replace T := T.after b
  replace E := E.below b
  clear b C
  rw [decide_eq_true rfl, decide_eq_true rfl]
  go_wp2_with fail
  refine (g_same _ T.m T.c).mono ?_
  rintro e w12 ⟨rfl, b⟩
  replace T := T.after b
  replace E := E.below b
  clear b
  rw [show (decide (([0, 0, 0, 7] : List Int) = [5, 0, 0, 7]) && decide (([0] : List Int) = [0])) = false from by decide]
  go_wp2_with fail
  refine (copy_nil _).mono ?_
  rintro e w13 ⟨rfl, hw⟩
  have hw := hw.symm
  subst hw
  go_wp2_with fail
  refine (words_nil _).mono ?_
  rintro e w13 ⟨rfl, hw⟩
  have hw := hw.symm
  subst hw
  go_wp2_with fail
  refine (bytes_nil _).mono ?_
  rintro e w13 ⟨rfl, hw⟩
  have hw := hw.symm
  subst hw
  go_wp2_with fail
  refine (word_nil 0 _).mono ?_
  rintro e w13 ⟨rfl, b⟩
  replace T := T.after b
  replace E := E.below b
  clear b
  go_wp2_with fail
  refine (byte_nil 0 _).mono ?_
  rintro e w13 ⟨rfl, b⟩
  replace T := T.after b
  replace E := E.below b
  clear b
  go_wp2_with fail
  refine (same_nil2 _ E (by decide) (by decide)).mono ?_
  rintro e w13 ⟨rfl, hw⟩
  have hw := hw.symm
  subst hw
  rw [show decide (0 + 0 = 0) = true from rfl]
  go_wp2_with fail
  refine (same_nil _ T.m).mono ?_
  rintro e w13 ⟨rfl, hw⟩
  have hw := hw.symm
  subst hw
  rw [show decide (([0, 0, 0, 7] : List Int).length + ([0] : List Int).length = 0) = false from by decide]
  have hF := T.below
  clear T E
  go_wp2_with fail
  refine (awake_any _).mono ?_
  rintro e w14 ⟨rfl, b⟩
  go_wp2_with fail
  go_ret
  exact ⟨rfl, bnext hF b⟩
end Go.Proofs.Ytmdagppeeejikaa
