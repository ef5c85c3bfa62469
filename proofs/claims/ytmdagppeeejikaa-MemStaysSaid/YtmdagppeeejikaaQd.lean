/- The walk of MemStays. Condition: the numbers fit their kinds. -/
import Derived.Test.YtmdagppeeejikaaQc
import Derived.Test.YtmdagppeeejikaaMv
namespace Go.Proofs.Ytmdagppeeejikaa
open Go.RowKit
set_option linter.unusedVariables false
set_option linter.unusedSimpArgs false

theorem inW_k (W : List Int) (k t : Int) (h : inW W k t = true) : 1 ≤ k ∧ k ≤ 4 := by simp [inW] at h; omega
theorem inB_k (B : List Int) (k t : Int) (h : inB B k t = true) : 5 ≤ k ∧ k ≤ 6 := by simp [inB] at h; omega

set_option maxRecDepth 100000 in
set_option maxHeartbeats 16000000 in
theorem stays_walk (q r : Int) (ao : Option Addr) (n cap : Nat) (X : Nat → Acc) (k t a b o : Int) (w : World) (q0 : 0 ≤ q) (q1 : q ≤ 255) (r0 : 0 ≤ r) (r1 : r ≤ 255) (k0 : 0 ≤ k) (k1 : k ≤ 255)
    (t0 : -9223372036854775808 ≤ t) (t1 : t ≤ 9223372036854775807) (a0 : 0 ≤ a) (a1 : a ≤ 18446744073709551615) (b0 : 0 ≤ b) (b1 : b ≤ 18446744073709551615) (o0 : -9223372036854775808 ≤ o) (o1 : o ≤ 9223372036854775807) (RW : ARow w ao n X) :
    Calls Try.prog 10 #[.int .u8 q, .int .u8 r, .slice ao n cap, .agg #[.int .u8 k, .int .i64 t, .int .u64 a, .int .u64 b], .int .i64 o] w fun e w' => e = .returned (.bool true) ∧ Below w.heap.size w w' := by
  by_cases h60 : 60 < n
  · have HG := Lib.hid (fun w => great_yes ao n cap w h60)
    clear RW
    go_enter Try.func10, Try.ntmps10
    go_upto_region 1 with fail
    generalize hV : World.alloc w _ = V
    have hB : Below w.heap.size w V := hV ▸ (Below.refl _ w).alloc (Nat.le_refl _) _
    clear hV
    go_wp2_with fail
    refine (HG.out _).mono ?_
    rintro e w1 ⟨rfl, rfl⟩
    go_wp2_with fail
    refine (awake_any _).mono ?_
    rintro e w6 ⟨rfl, b6⟩
    go_wp2_with fail
    go_ret
    exact ⟨rfl, bnext hB b6⟩
  · have HG := Lib.hid (fun w => great_no ao n cap w h60)
    have HRW := Lib.hid RW
    clear RW
    obtain ⟨N, hN⟩ : ∃ N : Nat, q % 41 = N := ⟨(q % 41).toNat, by omega⟩
    obtain ⟨K, hK⟩ : ∃ K : Nat, r % 41 = K := ⟨(r % 41).toNat, by omega⟩
    have hN1 : N ≤ 40 := by omega
    have hK1 : K ≤ 40 := by omega
    have HNew := Lib.hid (fun (V : World) => hold_new (Below.refl V.heap.size V) N K (by omega) (by omega))
    go_enter Try.func10, Try.ntmps10
    go_upto_region 1 with fail
    generalize hV : World.alloc w _ = V
    have hB : Below w.heap.size w V := hV ▸ (Below.refl _ w).alloc (Nat.le_refl _) _
    have HX := Lib.hid (fun (s : World) (hb : Below V.heap.size V s) => At.below (show At V w.heap.size #[.int .u8 k, .int .i64 t, .int .u64 a, .int .u64 b] 30 from hV ▸ At.last w _ 30) hb)
    have HB0 := Lib.hid hB
    clear hV hB
    go_wp2_with fail
    refine (HG.out _).mono ?_
    rintro e w1 ⟨rfl, hw1⟩
    have hw1 := hw1.symm
    subst hw1
    go_wp2_with fail
    refine (HNew.out _).mono ?_
    rintro e w2 ⟨p, bw, bb, rfl, H⟩
    clear HNew HG hN hK
    go_wp2_with fail
    go_loopw [13] (fun i wr => ∃ (j : Nat) (W B : List Int), j ≤ n ∧ i = .int .i64 j ∧ Hold V wr p bw bb W B) (fun i _ => n - (intOf i).toNat)
    case atStart => exact ⟨0, _, _, by omega, rfl, H⟩
    case round =>
      clear H
      obtain ⟨j, W, B, hj, rfl, H⟩ := hrel
      by_cases hjn : j < n
      · obtain ⟨b', off, rfl, hlt, hc⟩ := HRW.out.row j hjn
        have hok := HRW.out.ok j hjn
        have hcr := hc.below hlt (bnext HB0.out H.below)
        generalize X j = x at *
        obtain ⟨xk, xt, xa, xb⟩ := x
        obtain ⟨ok0, ok1, ot0, ot1, oa0, oa1, ob0, ob1⟩ := hok
        obtain ⟨c0, c1, c2, c3⟩ := hcr
        dsimp only at c0 c1 c2 c3 ok0 ok1 ot0 ot1 oa0 oa1 ob0 ob1
        have HD := Lib.hid (hold_do H xk xt xa xb ok0 ok1 oa0 oa1 ob0 ob1)
        clear hc H
        generalize tD W B xk xt xa = told at *
        generalize okD W B xk xt = okk at *
        go_wp2_with fail
        refine HD.out.mono ?_
        rintro e y1 ⟨rfl, H1⟩
        go_wp2_with fail
        go_roundw
        case rel => exact ⟨j + 1, _, _, by omega, by go_num, H1⟩
        case measure => simp [intOf]; omega
      · obtain rfl : j = n := by omega
        obtain ⟨v1, v2, M⟩ : ∃ v1 v2, GM wr p V.heap.size v1 v2 W B := ⟨_, _, GM.of_mem H.mem H.lw H.lb⟩
        have MB := H.below
        clear H HRW hjn hj
        go_wp2_with fail
        refine (g_copy _ M).mono ?_
        rintro e w5 ⟨pc, u1, u2, rfl, C, bc, lc⟩
        have T := TwoM.made M MB C bc lc
        clear M MB C bc lc
        obtain ⟨y, hy⟩ : ∃ y, y = at0 W o := ⟨_, rfl⟩
        obtain ⟨z, hz⟩ : ∃ z, z = at0 B o := ⟨_, rfl⟩
        have HY := Lib.hid hy
        have HZ := Lib.hid hz
        clear hy hz
        go_wp2_with fail
        refine (g_word o _ T.m).mono ?_
        rintro e w6 ⟨rfl, D⟩
        replace T := T.stepM D
        clear D
        rw [← HY.out]
        go_wp2_with fail
        refine (g_byte o _ T.m).mono ?_
        rintro e w7 ⟨rfl, D⟩
        replace T := T.stepM D
        clear D
        rw [← HZ.out]
        have HDo := Lib.hid (fun (p base : Nat) (v1 v2 : Value) (w : World) (M : GM w p base v1 v2 W B) => g_do k t a b w M k0 k1 a0 (show a < 18446744073709551616 by omega) b0 (show b < 18446744073709551616 by omega))
        have HOK := Lib.hid (show okD W B k t = (inW W k t || inB B k t) from rfl)
        have HSW := Lib.hid (fun h => (stayW W k t a b o h).trans HY.out.symm)
        have HSB := Lib.hid (fun h => (stayB B k t a o h).trans HZ.out.symm)
        generalize tD W B k t a = told at *
        generalize hok : okD W B k t = okk at *
        have x0 := (HX.out _ T.below).cell 0 rfl
        have x1 := (HX.out _ T.below).cell 1 rfl
        have x2 := (HX.out _ T.below).cell 2 rfl
        have x3 := (HX.out _ T.below).cell 3 rfl
        go_wp2_with fail
        refine (HDo.out _ _ _ _ _ T.m).mono ?_
        rintro e w8 ⟨rfl, D⟩
        replace T := T.stepM D
        clear D x0 x1 x2 x3
        have x0 := (HX.out _ T.below).cell 0 rfl
        have x1 := (HX.out _ T.below).cell 1 rfl
        have x2 := (HX.out _ T.below).cell 2 rfl
        have x3 := (HX.out _ T.below).cell 3 rfl
        cases okk
        · have hw : inW W k t = false := by
            have := HOK.out
            cases h : inW W k t
            · rfl
            · rw [h] at this; simp at this
          have hb : inB B k t = false := by
            have := HOK.out
            cases h : inB B k t
            · rfl
            · rw [h] at this; simp at this
          have e1 : wD W k t a b = W := by simp [wD, hw]
          have e2 : bD B k t a = B := by simp [bD, hb]
          rw [e1, e2] at T
          rw [e1, e2] at HDo
          clear e1 e2 hw hb HOK HSW HSB
          rcases (show (1 ≤ k ∧ k ≤ 4) ∨ k < 1 ∨ 4 < k by omega) with ⟨h1, h4⟩ | h1 | h4
          · skip
            go_wp2_with fail
            refine (g_word o _ T.m).mono ?_
            rintro e z1 ⟨rfl, D⟩
            replace T := T.stepM D
            clear D
            rw [← HY.out]
            clear x0 x1 x2 x3
            have x0 := (HX.out _ T.below).cell 0 rfl
            have x1 := (HX.out _ T.below).cell 1 rfl
            have x2 := (HX.out _ T.below).cell 2 rfl
            have x3 := (HX.out _ T.below).cell 3 rfl
            go_wp2_with fail
            refine (g_byte o _ T.m).mono ?_
            rintro e z1 ⟨rfl, D⟩
            replace T := T.stepM D
            clear D
            rw [← HZ.out]
            clear x0 x1 x2 x3
            have x0 := (HX.out _ T.below).cell 0 rfl
            have x1 := (HX.out _ T.below).cell 1 rfl
            have x2 := (HX.out _ T.below).cell 2 rfl
            have x3 := (HX.out _ T.below).cell 3 rfl
            go_wp2_with fail
            refine (g_same _ T.m T.c).mono ?_
            rintro e z1 ⟨rfl, b1⟩
            replace T := T.after b1
            clear b1
            rw [decide_eq_true rfl, decide_eq_true rfl]
            clear x0 x1 x2 x3
            have x0 := (HX.out _ T.below).cell 0 rfl
            have x1 := (HX.out _ T.below).cell 1 rfl
            have x2 := (HX.out _ T.below).cell 2 rfl
            have x3 := (HX.out _ T.below).cell 3 rfl
            go_wp2_with fail
            refine (g_word o _ T.c).mono ?_
            rintro e z1 ⟨rfl, D⟩
            replace T := T.stepC D
            clear D
            rw [← HY.out]
            clear x0 x1 x2 x3
            have x0 := (HX.out _ T.below).cell 0 rfl
            have x1 := (HX.out _ T.below).cell 1 rfl
            have x2 := (HX.out _ T.below).cell 2 rfl
            have x3 := (HX.out _ T.below).cell 3 rfl
            go_wp2_with fail
            refine (g_byte o _ T.c).mono ?_
            rintro e z1 ⟨rfl, D⟩
            replace T := T.stepC D
            clear D
            rw [← HZ.out]
            clear x0 x1 x2 x3
            have x0 := (HX.out _ T.below).cell 0 rfl
            have x1 := (HX.out _ T.below).cell 1 rfl
            have x2 := (HX.out _ T.below).cell 2 rfl
            have x3 := (HX.out _ T.below).cell 3 rfl
            go_wp2_with fail
            refine (HDo.out _ _ _ _ _ T.c).mono ?_
            rintro e z1 ⟨rfl, D⟩
            replace T := T.stepC D
            clear D
            clear x0 x1 x2 x3
            have x0 := (HX.out _ T.below).cell 0 rfl
            have x1 := (HX.out _ T.below).cell 1 rfl
            have x2 := (HX.out _ T.below).cell 2 rfl
            have x3 := (HX.out _ T.below).cell 3 rfl
            go_wp2_with fail
            refine (g_same _ T.m T.c).mono ?_
            rintro e z1 ⟨rfl, b1⟩
            replace T := T.after b1
            clear b1
            rw [decide_eq_true rfl, decide_eq_true rfl]
            clear x0 x1 x2 x3
            have x0 := (HX.out _ T.below).cell 0 rfl
            have x1 := (HX.out _ T.below).cell 1 rfl
            have x2 := (HX.out _ T.below).cell 2 rfl
            have x3 := (HX.out _ T.below).cell 3 rfl
            clear x0 x1 x2 x3
            have hF := T.below
            clear T
            go_wp2_with fail
            refine (awake_any _).mono ?_
            rintro e z1 ⟨rfl, b1⟩
            go_wp2_with fail
            go_ret
            exact ⟨rfl, bnext (bnext HB0.out hF) b1⟩
          · skip
            go_wp2_with fail
            refine (g_word o _ T.m).mono ?_
            rintro e z1 ⟨rfl, D⟩
            replace T := T.stepM D
            clear D
            rw [← HY.out]
            clear x0 x1 x2 x3
            have x0 := (HX.out _ T.below).cell 0 rfl
            have x1 := (HX.out _ T.below).cell 1 rfl
            have x2 := (HX.out _ T.below).cell 2 rfl
            have x3 := (HX.out _ T.below).cell 3 rfl
            go_wp2_with fail
            refine (g_byte o _ T.m).mono ?_
            rintro e z1 ⟨rfl, D⟩
            replace T := T.stepM D
            clear D
            rw [← HZ.out]
            clear x0 x1 x2 x3
            have x0 := (HX.out _ T.below).cell 0 rfl
            have x1 := (HX.out _ T.below).cell 1 rfl
            have x2 := (HX.out _ T.below).cell 2 rfl
            have x3 := (HX.out _ T.below).cell 3 rfl
            go_wp2_with fail
            refine (g_same _ T.m T.c).mono ?_
            rintro e z1 ⟨rfl, b1⟩
            replace T := T.after b1
            clear b1
            rw [decide_eq_true rfl, decide_eq_true rfl]
            clear x0 x1 x2 x3
            have x0 := (HX.out _ T.below).cell 0 rfl
            have x1 := (HX.out _ T.below).cell 1 rfl
            have x2 := (HX.out _ T.below).cell 2 rfl
            have x3 := (HX.out _ T.below).cell 3 rfl
            go_wp2_with fail
            refine (g_word o _ T.c).mono ?_
            rintro e z1 ⟨rfl, D⟩
            replace T := T.stepC D
            clear D
            rw [← HY.out]
            clear x0 x1 x2 x3
            have x0 := (HX.out _ T.below).cell 0 rfl
            have x1 := (HX.out _ T.below).cell 1 rfl
            have x2 := (HX.out _ T.below).cell 2 rfl
            have x3 := (HX.out _ T.below).cell 3 rfl
            go_wp2_with fail
            refine (g_byte o _ T.c).mono ?_
            rintro e z1 ⟨rfl, D⟩
            replace T := T.stepC D
            clear D
            rw [← HZ.out]
            clear x0 x1 x2 x3
            have x0 := (HX.out _ T.below).cell 0 rfl
            have x1 := (HX.out _ T.below).cell 1 rfl
            have x2 := (HX.out _ T.below).cell 2 rfl
            have x3 := (HX.out _ T.below).cell 3 rfl
            go_wp2_with fail
            refine (HDo.out _ _ _ _ _ T.c).mono ?_
            rintro e z1 ⟨rfl, D⟩
            replace T := T.stepC D
            clear D
            clear x0 x1 x2 x3
            have x0 := (HX.out _ T.below).cell 0 rfl
            have x1 := (HX.out _ T.below).cell 1 rfl
            have x2 := (HX.out _ T.below).cell 2 rfl
            have x3 := (HX.out _ T.below).cell 3 rfl
            go_wp2_with fail
            refine (g_same _ T.m T.c).mono ?_
            rintro e z1 ⟨rfl, b1⟩
            replace T := T.after b1
            clear b1
            rw [decide_eq_true rfl, decide_eq_true rfl]
            clear x0 x1 x2 x3
            have x0 := (HX.out _ T.below).cell 0 rfl
            have x1 := (HX.out _ T.below).cell 1 rfl
            have x2 := (HX.out _ T.below).cell 2 rfl
            have x3 := (HX.out _ T.below).cell 3 rfl
            clear x0 x1 x2 x3
            have hF := T.below
            clear T
            go_wp2_with fail
            refine (awake_any _).mono ?_
            rintro e z1 ⟨rfl, b1⟩
            go_wp2_with fail
            go_ret
            exact ⟨rfl, bnext (bnext HB0.out hF) b1⟩
          · have h1 : 1 ≤ k := by omega
            go_wp2_with fail
            refine (g_word o _ T.m).mono ?_
            rintro e z1 ⟨rfl, D⟩
            replace T := T.stepM D
            clear D
            rw [← HY.out]
            clear x0 x1 x2 x3
            have x0 := (HX.out _ T.below).cell 0 rfl
            have x1 := (HX.out _ T.below).cell 1 rfl
            have x2 := (HX.out _ T.below).cell 2 rfl
            have x3 := (HX.out _ T.below).cell 3 rfl
            go_wp2_with fail
            refine (g_byte o _ T.m).mono ?_
            rintro e z1 ⟨rfl, D⟩
            replace T := T.stepM D
            clear D
            rw [← HZ.out]
            clear x0 x1 x2 x3
            have x0 := (HX.out _ T.below).cell 0 rfl
            have x1 := (HX.out _ T.below).cell 1 rfl
            have x2 := (HX.out _ T.below).cell 2 rfl
            have x3 := (HX.out _ T.below).cell 3 rfl
            go_wp2_with fail
            refine (g_same _ T.m T.c).mono ?_
            rintro e z1 ⟨rfl, b1⟩
            replace T := T.after b1
            clear b1
            rw [decide_eq_true rfl, decide_eq_true rfl]
            clear x0 x1 x2 x3
            have x0 := (HX.out _ T.below).cell 0 rfl
            have x1 := (HX.out _ T.below).cell 1 rfl
            have x2 := (HX.out _ T.below).cell 2 rfl
            have x3 := (HX.out _ T.below).cell 3 rfl
            go_wp2_with fail
            refine (g_word o _ T.c).mono ?_
            rintro e z1 ⟨rfl, D⟩
            replace T := T.stepC D
            clear D
            rw [← HY.out]
            clear x0 x1 x2 x3
            have x0 := (HX.out _ T.below).cell 0 rfl
            have x1 := (HX.out _ T.below).cell 1 rfl
            have x2 := (HX.out _ T.below).cell 2 rfl
            have x3 := (HX.out _ T.below).cell 3 rfl
            go_wp2_with fail
            refine (g_byte o _ T.c).mono ?_
            rintro e z1 ⟨rfl, D⟩
            replace T := T.stepC D
            clear D
            rw [← HZ.out]
            clear x0 x1 x2 x3
            have x0 := (HX.out _ T.below).cell 0 rfl
            have x1 := (HX.out _ T.below).cell 1 rfl
            have x2 := (HX.out _ T.below).cell 2 rfl
            have x3 := (HX.out _ T.below).cell 3 rfl
            go_wp2_with fail
            refine (HDo.out _ _ _ _ _ T.c).mono ?_
            rintro e z1 ⟨rfl, D⟩
            replace T := T.stepC D
            clear D
            clear x0 x1 x2 x3
            have x0 := (HX.out _ T.below).cell 0 rfl
            have x1 := (HX.out _ T.below).cell 1 rfl
            have x2 := (HX.out _ T.below).cell 2 rfl
            have x3 := (HX.out _ T.below).cell 3 rfl
            go_wp2_with fail
            refine (g_same _ T.m T.c).mono ?_
            rintro e z1 ⟨rfl, b1⟩
            replace T := T.after b1
            clear b1
            rw [decide_eq_true rfl, decide_eq_true rfl]
            clear x0 x1 x2 x3
            have x0 := (HX.out _ T.below).cell 0 rfl
            have x1 := (HX.out _ T.below).cell 1 rfl
            have x2 := (HX.out _ T.below).cell 2 rfl
            have x3 := (HX.out _ T.below).cell 3 rfl
            clear x0 x1 x2 x3
            have hF := T.below
            clear T
            go_wp2_with fail
            refine (awake_any _).mono ?_
            rintro e z1 ⟨rfl, b1⟩
            go_wp2_with fail
            go_ret
            exact ⟨rfl, bnext (bnext HB0.out hF) b1⟩
        · have hk : 1 ≤ k ∧ k ≤ 6 := by
            have := HOK.out
            cases h : inW W k t
            · rw [h] at this
              have := inB_k B k t (by simpa using this.symm)
              omega
            · have := inW_k W k t h
              omega
          obtain ⟨h1, h6⟩ := hk
          by_cases h4 : k ≤ 4
          · have e2 : bD B k t a = B := by
              have : inB B k t = false := by
                cases h : inB B k t
                · rfl
                · have := inB_k B k t h; omega
              simp [bD, this]
            have HEB := Lib.hid (show at0 (bD B k t a) o = z by rw [e2]; exact HZ.out.symm)
            clear e2
            by_cases hto : t = o
            · subst hto
              clear HSW HSB HOK
              go_wp2_with fail
              refine (g_byte t _ T.m).mono ?_
              rintro e z1 ⟨rfl, D⟩
              replace T := T.stepM D
              clear D
              rw [HEB.out]
              clear x0 x1 x2 x3
              have x0 := (HX.out _ T.below).cell 0 rfl
              have x1 := (HX.out _ T.below).cell 1 rfl
              have x2 := (HX.out _ T.below).cell 2 rfl
              have x3 := (HX.out _ T.below).cell 3 rfl
              go_wp2_with fail
              refine (g_word t _ T.c).mono ?_
              rintro e z1 ⟨rfl, D⟩
              replace T := T.stepC D
              clear D
              rw [← HY.out]
              clear x0 x1 x2 x3
              have x0 := (HX.out _ T.below).cell 0 rfl
              have x1 := (HX.out _ T.below).cell 1 rfl
              have x2 := (HX.out _ T.below).cell 2 rfl
              have x3 := (HX.out _ T.below).cell 3 rfl
              go_wp2_with fail
              refine (g_byte t _ T.c).mono ?_
              rintro e z1 ⟨rfl, D⟩
              replace T := T.stepC D
              clear D
              rw [← HZ.out]
              clear x0 x1 x2 x3
              have x0 := (HX.out _ T.below).cell 0 rfl
              have x1 := (HX.out _ T.below).cell 1 rfl
              have x2 := (HX.out _ T.below).cell 2 rfl
              have x3 := (HX.out _ T.below).cell 3 rfl
              go_wp2_with fail
              refine (HDo.out _ _ _ _ _ T.c).mono ?_
              rintro e z1 ⟨rfl, D⟩
              replace T := T.stepC D
              clear D
              clear x0 x1 x2 x3
              have x0 := (HX.out _ T.below).cell 0 rfl
              have x1 := (HX.out _ T.below).cell 1 rfl
              have x2 := (HX.out _ T.below).cell 2 rfl
              have x3 := (HX.out _ T.below).cell 3 rfl
              go_wp2_with fail
              refine (g_same _ T.m T.c).mono ?_
              rintro e z1 ⟨rfl, b1⟩
              replace T := T.after b1
              clear b1
              rw [decide_eq_true rfl, decide_eq_true rfl]
              clear x0 x1 x2 x3
              have x0 := (HX.out _ T.below).cell 0 rfl
              have x1 := (HX.out _ T.below).cell 1 rfl
              have x2 := (HX.out _ T.below).cell 2 rfl
              have x3 := (HX.out _ T.below).cell 3 rfl
              clear x0 x1 x2 x3
              have hF := T.below
              clear T
              go_wp2_with fail
              refine (awake_any _).mono ?_
              rintro e z1 ⟨rfl, b1⟩
              go_wp2_with fail
              go_ret
              exact ⟨rfl, bnext (bnext HB0.out hF) b1⟩
            · have HEW := Lib.hid (HSW.out (fun _ => hto))
              have hto1 : (t != o) = true := by simpa using hto
              have hto2 : (t == o) = false := by simpa using hto
              clear HSW HSB HOK
              go_wp2_with fail
              refine (g_word o _ T.m).mono ?_
              rintro e z1 ⟨rfl, D⟩
              replace T := T.stepM D
              clear D
              rw [HEW.out]
              clear x0 x1 x2 x3
              have x0 := (HX.out _ T.below).cell 0 rfl
              have x1 := (HX.out _ T.below).cell 1 rfl
              have x2 := (HX.out _ T.below).cell 2 rfl
              have x3 := (HX.out _ T.below).cell 3 rfl
              go_wp2_with fail
              refine (g_byte o _ T.m).mono ?_
              rintro e z1 ⟨rfl, D⟩
              replace T := T.stepM D
              clear D
              rw [HEB.out]
              clear x0 x1 x2 x3
              have x0 := (HX.out _ T.below).cell 0 rfl
              have x1 := (HX.out _ T.below).cell 1 rfl
              have x2 := (HX.out _ T.below).cell 2 rfl
              have x3 := (HX.out _ T.below).cell 3 rfl
              go_wp2_with fail
              refine (g_word o _ T.c).mono ?_
              rintro e z1 ⟨rfl, D⟩
              replace T := T.stepC D
              clear D
              rw [← HY.out]
              clear x0 x1 x2 x3
              have x0 := (HX.out _ T.below).cell 0 rfl
              have x1 := (HX.out _ T.below).cell 1 rfl
              have x2 := (HX.out _ T.below).cell 2 rfl
              have x3 := (HX.out _ T.below).cell 3 rfl
              go_wp2_with fail
              refine (g_byte o _ T.c).mono ?_
              rintro e z1 ⟨rfl, D⟩
              replace T := T.stepC D
              clear D
              rw [← HZ.out]
              clear x0 x1 x2 x3
              have x0 := (HX.out _ T.below).cell 0 rfl
              have x1 := (HX.out _ T.below).cell 1 rfl
              have x2 := (HX.out _ T.below).cell 2 rfl
              have x3 := (HX.out _ T.below).cell 3 rfl
              go_wp2_with fail
              refine (HDo.out _ _ _ _ _ T.c).mono ?_
              rintro e z1 ⟨rfl, D⟩
              replace T := T.stepC D
              clear D
              clear x0 x1 x2 x3
              have x0 := (HX.out _ T.below).cell 0 rfl
              have x1 := (HX.out _ T.below).cell 1 rfl
              have x2 := (HX.out _ T.below).cell 2 rfl
              have x3 := (HX.out _ T.below).cell 3 rfl
              go_wp2_with fail
              refine (g_same _ T.m T.c).mono ?_
              rintro e z1 ⟨rfl, b1⟩
              replace T := T.after b1
              clear b1
              rw [decide_eq_true rfl, decide_eq_true rfl]
              clear x0 x1 x2 x3
              have x0 := (HX.out _ T.below).cell 0 rfl
              have x1 := (HX.out _ T.below).cell 1 rfl
              have x2 := (HX.out _ T.below).cell 2 rfl
              have x3 := (HX.out _ T.below).cell 3 rfl
              clear x0 x1 x2 x3
              have hF := T.below
              clear T
              go_wp2_with fail
              refine (awake_any _).mono ?_
              rintro e z1 ⟨rfl, b1⟩
              go_wp2_with fail
              go_ret
              exact ⟨rfl, bnext (bnext HB0.out hF) b1⟩
          · have h5 : 5 ≤ k := by omega
            have hk4 : 4 < k := by omega
            have e1 : wD W k t a b = W := wD_byte W k t a b hk4
            have HEW := Lib.hid (show at0 (wD W k t a b) o = y by rw [e1]; exact HY.out.symm)
            clear e1
            by_cases hto : t = o
            · subst hto
              clear HSW HSB HOK
              go_wp2_with fail
              refine (g_word t _ T.m).mono ?_
              rintro e z1 ⟨rfl, D⟩
              replace T := T.stepM D
              clear D
              rw [HEW.out]
              clear x0 x1 x2 x3
              have x0 := (HX.out _ T.below).cell 0 rfl
              have x1 := (HX.out _ T.below).cell 1 rfl
              have x2 := (HX.out _ T.below).cell 2 rfl
              have x3 := (HX.out _ T.below).cell 3 rfl
              go_wp2_with fail
              refine (g_word t _ T.c).mono ?_
              rintro e z1 ⟨rfl, D⟩
              replace T := T.stepC D
              clear D
              rw [← HY.out]
              clear x0 x1 x2 x3
              have x0 := (HX.out _ T.below).cell 0 rfl
              have x1 := (HX.out _ T.below).cell 1 rfl
              have x2 := (HX.out _ T.below).cell 2 rfl
              have x3 := (HX.out _ T.below).cell 3 rfl
              go_wp2_with fail
              refine (g_byte t _ T.c).mono ?_
              rintro e z1 ⟨rfl, D⟩
              replace T := T.stepC D
              clear D
              rw [← HZ.out]
              clear x0 x1 x2 x3
              have x0 := (HX.out _ T.below).cell 0 rfl
              have x1 := (HX.out _ T.below).cell 1 rfl
              have x2 := (HX.out _ T.below).cell 2 rfl
              have x3 := (HX.out _ T.below).cell 3 rfl
              go_wp2_with fail
              refine (HDo.out _ _ _ _ _ T.c).mono ?_
              rintro e z1 ⟨rfl, D⟩
              replace T := T.stepC D
              clear D
              clear x0 x1 x2 x3
              have x0 := (HX.out _ T.below).cell 0 rfl
              have x1 := (HX.out _ T.below).cell 1 rfl
              have x2 := (HX.out _ T.below).cell 2 rfl
              have x3 := (HX.out _ T.below).cell 3 rfl
              go_wp2_with fail
              refine (g_same _ T.m T.c).mono ?_
              rintro e z1 ⟨rfl, b1⟩
              replace T := T.after b1
              clear b1
              rw [decide_eq_true rfl, decide_eq_true rfl]
              clear x0 x1 x2 x3
              have x0 := (HX.out _ T.below).cell 0 rfl
              have x1 := (HX.out _ T.below).cell 1 rfl
              have x2 := (HX.out _ T.below).cell 2 rfl
              have x3 := (HX.out _ T.below).cell 3 rfl
              clear x0 x1 x2 x3
              have hF := T.below
              clear T
              go_wp2_with fail
              refine (awake_any _).mono ?_
              rintro e z1 ⟨rfl, b1⟩
              go_wp2_with fail
              go_ret
              exact ⟨rfl, bnext (bnext HB0.out hF) b1⟩
            · have HEB := Lib.hid (HSB.out (fun _ => hto))
              have hto1 : (t != o) = true := by simpa using hto
              have hto2 : (t == o) = false := by simpa using hto
              clear HSW HSB HOK
              go_wp2_with fail
              refine (g_word o _ T.m).mono ?_
              rintro e z1 ⟨rfl, D⟩
              replace T := T.stepM D
              clear D
              rw [HEW.out]
              clear x0 x1 x2 x3
              have x0 := (HX.out _ T.below).cell 0 rfl
              have x1 := (HX.out _ T.below).cell 1 rfl
              have x2 := (HX.out _ T.below).cell 2 rfl
              have x3 := (HX.out _ T.below).cell 3 rfl
              go_wp2_with fail
              refine (g_byte o _ T.m).mono ?_
              rintro e z1 ⟨rfl, D⟩
              replace T := T.stepM D
              clear D
              rw [HEB.out]
              clear x0 x1 x2 x3
              have x0 := (HX.out _ T.below).cell 0 rfl
              have x1 := (HX.out _ T.below).cell 1 rfl
              have x2 := (HX.out _ T.below).cell 2 rfl
              have x3 := (HX.out _ T.below).cell 3 rfl
              go_wp2_with fail
              refine (g_word o _ T.c).mono ?_
              rintro e z1 ⟨rfl, D⟩
              replace T := T.stepC D
              clear D
              rw [← HY.out]
              clear x0 x1 x2 x3
              have x0 := (HX.out _ T.below).cell 0 rfl
              have x1 := (HX.out _ T.below).cell 1 rfl
              have x2 := (HX.out _ T.below).cell 2 rfl
              have x3 := (HX.out _ T.below).cell 3 rfl
              go_wp2_with fail
              refine (g_byte o _ T.c).mono ?_
              rintro e z1 ⟨rfl, D⟩
              replace T := T.stepC D
              clear D
              rw [← HZ.out]
              clear x0 x1 x2 x3
              have x0 := (HX.out _ T.below).cell 0 rfl
              have x1 := (HX.out _ T.below).cell 1 rfl
              have x2 := (HX.out _ T.below).cell 2 rfl
              have x3 := (HX.out _ T.below).cell 3 rfl
              go_wp2_with fail
              refine (HDo.out _ _ _ _ _ T.c).mono ?_
              rintro e z1 ⟨rfl, D⟩
              replace T := T.stepC D
              clear D
              clear x0 x1 x2 x3
              have x0 := (HX.out _ T.below).cell 0 rfl
              have x1 := (HX.out _ T.below).cell 1 rfl
              have x2 := (HX.out _ T.below).cell 2 rfl
              have x3 := (HX.out _ T.below).cell 3 rfl
              go_wp2_with fail
              refine (g_same _ T.m T.c).mono ?_
              rintro e z1 ⟨rfl, b1⟩
              replace T := T.after b1
              clear b1
              rw [decide_eq_true rfl, decide_eq_true rfl]
              clear x0 x1 x2 x3
              have x0 := (HX.out _ T.below).cell 0 rfl
              have x1 := (HX.out _ T.below).cell 1 rfl
              have x2 := (HX.out _ T.below).cell 2 rfl
              have x3 := (HX.out _ T.below).cell 3 rfl
              clear x0 x1 x2 x3
              have hF := T.below
              clear T
              go_wp2_with fail
              refine (awake_any _).mono ?_
              rintro e z1 ⟨rfl, b1⟩
              go_wp2_with fail
              go_ret
              exact ⟨rfl, bnext (bnext HB0.out hF) b1⟩
end Go.Proofs.Ytmdagppeeejikaa
