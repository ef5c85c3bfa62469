/- The walk of PortCounts. Condition: the numbers fit their kinds. -/
import Derived.Test.YtmdagppeeejikaaNc
import Derived.Test.YtmdagppeeejikaaMv
namespace Go.Proofs.Ytmdagppeeejikaa
open Go.RowKit
set_option linter.unusedVariables false

theorem one_store (y a : Int) : wD [y] 2 0 a 0 = [a] ∧ bD [] 2 0 a = [] := by simp [wD, bD, inW, inB, nowW]
theorem one_add (y a : Int) : wD [y] 4 0 a 0 = [(y + a) % 18446744073709551616] ∧ bD [] 4 0 a = [] ∧ tD [y] [] 4 0 a = y := by simp [wD, bD, tD, inW, inB, nowW, toldW]
theorem one_cas (y a b : Int) : wD [y] 3 0 a b = [if y = a then b else y] ∧ bD [] 3 0 a = [] ∧ tD [y] [] 3 0 a = if y = a then 1 else 0 := by simp [wD, bD, tD, inW, inB, nowW, toldW]
theorem one_load (y : Int) : wD [y] 1 0 0 0 = [y] ∧ bD [] 1 0 0 = [] ∧ tD [y] [] 1 0 0 = y := by simp [wD, bD, tD, inW, inB, nowW, toldW]

set_option maxHeartbeats 4000000 in
theorem counts_walk (ao : Option Addr) (n cap : Nat) (X : Nat → Acc) (w : World) (RW : ARow w ao n X) :
    Calls Try.prog 7 #[.slice ao n cap] w fun e w' => e = .returned (.bool true) ∧ Below w.heap.size w w' := by
  by_cases h60 : 100 < n
  · clear RW
    go_enter Try.func7, Try.ntmps7
    go_wp2_with fail
    refine (awake4_any _).mono ?_
    rintro e w6 ⟨rfl, b6⟩
    go_wp2_with fail
    go_ret
    exact ⟨rfl, b6⟩
  · have HRW := Lib.hid RW
    clear RW
    go_enter Try.func7, Try.ntmps7
    go_wp2_with fail
    refine (of_any (Below.refl _ w) 1 0 (by decide) (by decide)).mono ?_
    rintro e w1 ⟨m, bw, bb, rfl, H0⟩
    go_wp2_with fail
    refine (p_new m 0 _).mono ?_
    rintro e w2 ⟨d, ws, rfl, P, b, l1, l2⟩
    have H := PH.made H0 P b l1 l2
    clear P b l1 l2 H0
    go_upto_region 8 with fail
    go_loopw [4, 5] (fun v i wr => ∃ (k : Nat) (x s : Int), k ≤ n ∧ i = .int .i64 k ∧ v = .int .u64 x ∧ 0 ≤ s ∧ s ≤ 2 * k ∧ PH w wr d ws m bw bb 0 s (.pointer none) [x] []) (fun _ i _ => n - (intOf i).toNat)
    case atStart => exact ⟨0, 0, 0, by omega, rfl, rfl, by omega, by omega, H⟩
    case round =>
      clear H
      obtain ⟨k, y, s, hk, rfl, rfl, s0, s1, H⟩ := hrel
      by_cases hkn : k < n
      · obtain ⟨b, off, rfl, hlt, hc⟩ := HRW.out.row k hkn
        have hok := HRW.out.ok k hkn
        have hcr := hc.below hlt H.below
        generalize X k = x at *
        obtain ⟨xk, xt, xa, xb⟩ := x
        obtain ⟨ok0, ok1, ot0, ot1, oa0, oa1, ob0, ob1⟩ := hok
        obtain ⟨c0, c1, c2, c3⟩ := hcr
        dsimp only at c0 c1 c2 c3 ok0 ok1 ot0 ot1 oa0 oa1 ob0 ob1
        go_upto_region 11 with fail
        have H' := H.after ((Below.refl _ wr).alloc (Nat.le_refl _) (.cells #[.int .u8 xk, .int .i64 xt, .int .u64 xa, .int .u64 xb] 30))
        have AX : At (wr.alloc (.cells #[.int .u8 xk, .int .i64 xt, .int .u64 xa, .int .u64 xb] 30)) wr.heap.size #[.int .u8 xk, .int .i64 xt, .int .u64 xa, .int .u64 xb] 30 := At.last wr _ _
        have lws := H.port.ways.lt
        have lbw := H.mem.words.lt
        have lbb := H.mem.bytes.lt
        have hni : wr.heap.size ∉ [ws, bw, bb] := by simp; omega
        generalize World.alloc wr _ = V at *
        have x0 := AX.cell 0 rfl
        have x2 := AX.cell 2 rfl
        have x3 := AX.cell 3 rfl
        clear H c0 c1 c2 c3 lws lbw lbb
        by_cases m0 : xk % 3 = 0
        · go_wp2_with fail
          refine (p_store 0 xa _ H'.port H'.mem s0 (by omega) oa0 oa1).mono ?_
          rintro e y1 ⟨rfl, D⟩
          have H1 := H'.step D
          rw [(one_store y xa).1, (one_store y xa).2] at H1
          have AX1 := AX.ch D.ch hni
          clear D AX x0 x2 x3
          have x2 := AX1.cell 2 rfl
          go_wp2_with fail
          refine (p_load 0 _ H1.port H1.mem (by omega) (by omega)).mono ?_
          rintro e y2 ⟨rfl, D⟩
          have H2 := H1.step D
          rw [(one_load xa).1, (one_load xa).2.1] at H2
          rw [(one_load xa).2.2]
          clear D
          go_wp2_with fail
          go_roundw
          case rel => exact ⟨k + 1, xa, _, by omega, by go_num, rfl, by omega, by omega, H2⟩
          case measure => simp [intOf]; omega
        by_cases m1 : xk % 3 = 1
        · go_wp2_with fail
          refine (p_add 0 xa _ H'.port H'.mem s0 (by omega) oa0 oa1).mono ?_
          rintro e y1 ⟨rfl, D⟩
          have H1 := H'.step D
          rw [(one_add y xa).1, (one_add y xa).2.1] at H1
          rw [(one_add y xa).2.2]
          have AX1 := AX.ch D.ch hni
          clear D AX x0 x2 x3
          have x2 := AX1.cell 2 rfl
          obtain ⟨u, hu⟩ : ∃ u, (y + xa) % 18446744073709551616 = u := ⟨_, rfl⟩
          rw [hu] at H1
          have hu2 : IntKind.u64.wrap (y + xa) = u := by rw [← hu]; rfl
          clear hu
          go_wp2_with fail
          refine (p_load 0 _ H1.port H1.mem (by omega) (by omega)).mono ?_
          rintro e y2 ⟨rfl, D⟩
          have H2 := H1.step D
          rw [(one_load u).1, (one_load u).2.1] at H2
          rw [(one_load u).2.2]
          clear D
          go_wp2_with fail
          go_roundw
          case rel => exact ⟨k + 1, u, _, by omega, by go_num, rfl, by omega, by omega, H2⟩
          case measure => simp [intOf]; omega
        have m2 : xk % 3 = 2 := by omega
        by_cases hya : y = xa
        · subst hya
          go_upto_region 20 with fail
          have CC : (tD [y] [] 3 0 y == 1) = true := by rw [(one_cas y y xb).2.2, if_pos rfl]; rfl
          go_region_with ((go_at_call 29; refine (p_cas 0 y xb _ (H'.port.below (Below.refl _ V).drew) (H'.mem.below (Below.refl _ V).drew) s0 (by omega) oa0 oa1 ob0 ob1).mono ?_; rintro e y1 ⟨rfl, D⟩; have AX1 := (AX.below (Below.refl _ V).drew).ch D.ch hni; have z2 := AX1.cell 2 rfl; have z3 := AX1.cell 3 rfl; rw [CC]))
          all_goals
            have H1 := PH.step (H'.after (Below.refl _ V).drew) D
            rw [(one_cas y y xb).1, (one_cas y y xb).2.1, if_pos rfl] at H1
            clear D AX1
            go_wp2_with fail
            refine (p_load 0 _ H1.port H1.mem (by omega) (by omega)).mono ?_
            rintro e y2 ⟨rfl, D⟩
            have H2 := H1.step D
            rw [(one_load xb).1, (one_load xb).2.1] at H2
            rw [(one_load xb).2.2]
            clear D
            go_wp2_with fail
            go_roundw
            case rel => exact ⟨k + 1, xb, _, by omega, by go_num, rfl, by omega, by omega, H2⟩
            case measure => simp [intOf]; omega
        · have CC : (tD [y] [] 3 0 xa == 1) = false := by rw [(one_cas y xa xb).2.2, if_neg hya]; rfl
          have hyb : (y == xa) = false := by simpa using hya
          go_upto_region 20 with fail
          go_region_with ((go_at_call 29; refine (p_cas 0 xa xb _ (H'.port.below (Below.refl _ V).drew) (H'.mem.below (Below.refl _ V).drew) s0 (by omega) oa0 oa1 ob0 ob1).mono ?_; rintro e y1 ⟨rfl, D⟩; have AX1 := (AX.below (Below.refl _ V).drew).ch D.ch hni; have z2 := AX1.cell 2 rfl; have z3 := AX1.cell 3 rfl; rw [CC]))
          all_goals
            have H1 := PH.step (H'.after (Below.refl _ V).drew) D
            rw [(one_cas y xa xb).1, (one_cas y xa xb).2.1, if_neg hya] at H1
            clear D AX1
            go_wp2_with fail
            refine (p_load 0 _ H1.port H1.mem (by omega) (by omega)).mono ?_
            rintro e y2 ⟨rfl, D⟩
            have H2 := H1.step D
            rw [(one_load y).1, (one_load y).2.1] at H2
            rw [(one_load y).2.2]
            clear D
            go_wp2_with fail
            go_roundw
            case rel => exact ⟨k + 1, y, _, by omega, by go_num, rfl, by omega, by omega, H2⟩
            case measure => simp [intOf]; omega
      · obtain rfl : k = n := by omega
        go_wp2_with fail
        refine (awake4_any _).mono ?_
        rintro e x4 ⟨rfl, b⟩
        go_wp2_with fail
        go_ret
        exact ⟨rfl, bnext H.below b⟩
end Go.Proofs.Ytmdagppeeejikaa
