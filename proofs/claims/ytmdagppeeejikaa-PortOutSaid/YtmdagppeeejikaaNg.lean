/- The walk of PortOut. Condition: the numbers fit their kinds. -/
import Derived.Test.YtmdagppeeejikaaNf
namespace Go.Proofs.Ytmdagppeeejikaa
open Go.RowKit
set_option linter.unusedVariables false
set_option linter.unusedSimpArgs false

set_option maxRecDepth 100000 in
set_option maxHeartbeats 8000000 in
theorem out_walk (q r : Int) (ao : Option Addr) (n cap : Nat) (X : Nat → Acc) (w : World) (q0 : 0 ≤ q) (q1 : q ≤ 255) (r0 : 0 ≤ r) (r1 : r ≤ 255) (RW : ARow w ao n X) :
    Calls Try.prog 8 #[.int .u8 q, .int .u8 r, .slice ao n cap] w fun e w' => e = .returned (.bool true) ∧ Below w.heap.size w w' := by
  by_cases h60 : 60 < n
  · clear RW
    go_enter Try.func8, Try.ntmps8
    go_wp2_with fail
    refine (awake4_any _).mono ?_
    rintro e w6 ⟨rfl, b6⟩
    go_wp2_with fail
    go_ret
    exact ⟨rfl, b6⟩
  · have HRW := Lib.hid RW
    clear RW
    obtain ⟨N, hN⟩ : ∃ N : Nat, q % 21 = N := ⟨(q % 21).toNat, by omega⟩
    obtain ⟨K, hK⟩ : ∃ K : Nat, r % 21 = K := ⟨(r % 21).toNat, by omega⟩
    have hN1 : N ≤ 20 := by omega
    have hK1 : K ≤ 20 := by omega
    have HNew := Lib.hid (fun (w0 w : World) (hb : Below w0.heap.size w0 w) => of_any hb N K (by omega) (by omega))
    go_enter Try.func8, Try.ntmps8
    go_wp2_with fail
    refine (HNew.out _ _ (Below.refl _ w)).mono ?_
    rintro e w1 ⟨m1, bw1, bb1, rfl, H0⟩
    go_wp2_with fail
    refine (p_new m1 0 _).mono ?_
    rintro e w2 ⟨d1, ws1, rfl, P, b, l1, l2⟩
    have H1 := PH.made H0 P b l1 l2
    clear P b l1 l2 H0
    go_wp2_with fail
    refine (HNew.out _ _ (Below.refl _ w2)).mono ?_
    rintro e w3 ⟨m2, bw2, bb2, rfl, H0⟩
    go_wp2_with fail
    refine (p_new m2 0 _).mono ?_
    rintro e w4 ⟨d2, ws2, rfl, P, b, l1, l2⟩
    have H := Both.made H1 H0 P b l1 l2
    clear P b l1 l2 H0 H1 HNew hN hK
    go_wp2_with fail
    go_loopw [11] (fun i wr => ∃ (k : Nat) (s1 s2 : Int) (W B : List Int), k ≤ n ∧ i = .int .i64 k ∧ 0 ≤ s1 ∧ s1 ≤ k ∧ 0 ≤ s2 ∧ s2 ≤ k ∧ W.length = N ∧ B.length = K ∧ Both w wr w2.heap.size d1 ws1 m1 bw1 bb1 d2 ws2 m2 bw2 bb2 s1 s2 (.pointer none) (.pointer none) W B W B) (fun i _ => n - (intOf i).toNat)
    case atStart => exact ⟨0, 0, 0, _, _, by omega, rfl, by omega, by omega, by omega, by omega, by simp [zeros], by simp [zeros], H⟩
    case round =>
      clear H
      obtain ⟨k, s1, s2, W, B, hk, rfl, s10, s11, s20, s21, e1, e2, H⟩ := hrel
      by_cases hkn : k < n
      · obtain ⟨b, off, rfl, hlt, hc⟩ := HRW.out.row k hkn
        have hok := HRW.out.ok k hkn
        have hcr := hc.below hlt H.p.below
        generalize X k = x at *
        obtain ⟨xk, xt, xa, xb⟩ := x
        obtain ⟨ok0, ok1, ot0, ot1, oa0, oa1, ob0, ob1⟩ := hok
        obtain ⟨c0, c1, c2, c3⟩ := hcr
        dsimp only at c0 c1 c2 c3 ok0 ok1 ot0 ot1 oa0 oa1 ob0 ob1
        have HI := Lib.hid (fun w => is_any xk xt xa xb w ok0 ok1)
        go_upto_region 13 with fail
        have H' := H.after ((Below.refl _ wr).alloc (Nat.le_refl _) (.cells #[.int .u8 xk, .int .i64 xt, .int .u64 xa, .int .u64 xb] 30))
        have AX : At (wr.alloc (.cells #[.int .u8 xk, .int .i64 xt, .int .u64 xa, .int .u64 xb] 30)) wr.heap.size #[.int .u8 xk, .int .i64 xt, .int .u64 xa, .int .u64 xb] 30 := At.last wr _ _
        have hP := H.inP (Nat.le_refl _)
        generalize hx : wr.heap.size = x at *
        generalize World.alloc wr _ = V at *
        have x0 := AX.cell 0 rfl
        have x1 := AX.cell 1 rfl
        have x2 := AX.cell 2 rfl
        have x3 := AX.cell 3 rfl
        clear H c0 c1 c2 c3 hx
        by_cases his : 1 ≤ xk ∧ xk ≤ 6
        · go_wp2_with fail
          refine (HI.out _).mono ?_
          rintro e y1 ⟨rfl, b1⟩
          rw [decide_eq_true his]
          have H1 := H'.after b1
          have AX1 := AX.below b1
          clear H' AX x0 x1 x2 x3 HI b1
          have x0 := AX1.cell 0 rfl
          have x1 := AX1.cell 1 rfl
          have x2 := AX1.cell 2 rfl
          have x3 := AX1.cell 3 rfl
          obtain ⟨k0, k1⟩ := his
          have HD := Lib.hid (does_any xk xt xa xb y1 H1.p.port H1.p.mem s10 (by omega) k0 k1 oa0 oa1 ob0 ob1)
          have Hout := Lib.hid (out_D W B xk xt xa xb)
          rcases (show xk = 5 ∨ xk = 6 ∨ xk ≤ 4 by omega) with rfl | rfl | k4
          · go_upto_region 17 with fail
            go_wp2_with fail
            refine HD.out.mono ?_
            rintro e y2 ⟨rfl, D⟩
            have H2 := H1.stepP D
            have AX2 := AX1.ch D.ch hP
            clear HD D x0 x1 x2 x3
            have x1 := AX2.cell 1 rfl
            by_cases ht : xt < 0
            · obtain ⟨o1, o2, o3⟩ := Hout.out (fun _ => .inl ht) (fun _ => .inl ht)
              rw [o2, o3] at H2
              rw [o1]
              clear o1 o2 o3 Hout H1 AX1
              go_wp2_with fail
              go_roundw
              case rel => exact ⟨k + 1, _, _, W, B, by omega, by go_num, by omega, by omega, s20, by omega, e1, e2, H2⟩
              case measure => simp [intOf]; omega
            · by_cases hm : (K : Int) ≤ xt
              · obtain ⟨o1, o2, o3⟩ := Hout.out (fun _ => by omega) (fun _ => by omega)
                rw [o2, o3] at H2
                rw [o1]
                clear o1 o2 o3 Hout H1 AX1
                go_wp2_with fail
                go_roundw
                case rel => exact ⟨k + 1, _, _, W, B, by omega, by go_num, by omega, by omega, s20, by omega, e1, e2, H2⟩
                case measure => simp [intOf]; omega
              · have ht0 : 0 ≤ xt := by omega
                have ht1 : xt < (K : Int) := by omega
                have HD := Lib.hid (fun (s : World) (hs : Both w s w2.heap.size d1 ws1 m1 bw1 bb1 d2 ws2 m2 bw2 bb2 (s1 + 1) s2 (.pointer none) (.pointer none) (wD W 5 xt xa xb) (bD B 5 xt xa) W B) => does_any 5 xt xa xb s hs.q.port hs.q.mem s20 (by omega) (by omega) (by omega) oa0 oa1 ob0 ob1)
                have HH := Lib.hid H2
                have HA := Lib.hid AX2
                have x0 := AX2.cell 0 rfl
                have x2 := AX2.cell 2 rfl
                have x3 := AX2.cell 3 rfl
                clear H2 AX2 Hout H1 AX1
                generalize tD W B 5 xt xa = y at *
                go_wp2_with fail
                refine (HD.out _ HH.out).mono ?_
                rintro e y3 ⟨rfl, D⟩
                have H3 := Both.stepQ HH.out D
                clear HD D HH HA
                go_wp2_with fail
                go_roundw
                case rel => exact ⟨k + 1, _, _, _, _, by omega, by go_num, by omega, by omega, by omega, by omega, by rw [wD_len]; exact e1, by rw [bD_len]; exact e2, H3⟩
                case measure => simp [intOf]; omega
          · go_upto_region 17 with fail
            go_wp2_with fail
            refine HD.out.mono ?_
            rintro e y2 ⟨rfl, D⟩
            have H2 := H1.stepP D
            have AX2 := AX1.ch D.ch hP
            clear HD D x0 x1 x2 x3
            have x1 := AX2.cell 1 rfl
            by_cases ht : xt < 0
            · obtain ⟨o1, o2, o3⟩ := Hout.out (fun _ => .inl ht) (fun _ => .inl ht)
              rw [o2, o3] at H2
              rw [o1]
              clear o1 o2 o3 Hout H1 AX1
              go_wp2_with fail
              go_roundw
              case rel => exact ⟨k + 1, _, _, W, B, by omega, by go_num, by omega, by omega, s20, by omega, e1, e2, H2⟩
              case measure => simp [intOf]; omega
            · by_cases hm : (K : Int) ≤ xt
              · obtain ⟨o1, o2, o3⟩ := Hout.out (fun _ => by omega) (fun _ => by omega)
                rw [o2, o3] at H2
                rw [o1]
                clear o1 o2 o3 Hout H1 AX1
                go_wp2_with fail
                go_roundw
                case rel => exact ⟨k + 1, _, _, W, B, by omega, by go_num, by omega, by omega, s20, by omega, e1, e2, H2⟩
                case measure => simp [intOf]; omega
              · have ht0 : 0 ≤ xt := by omega
                have ht1 : xt < (K : Int) := by omega
                have HD := Lib.hid (fun (s : World) (hs : Both w s w2.heap.size d1 ws1 m1 bw1 bb1 d2 ws2 m2 bw2 bb2 (s1 + 1) s2 (.pointer none) (.pointer none) (wD W 6 xt xa xb) (bD B 6 xt xa) W B) => does_any 6 xt xa xb s hs.q.port hs.q.mem s20 (by omega) (by omega) (by omega) oa0 oa1 ob0 ob1)
                have HH := Lib.hid H2
                have HA := Lib.hid AX2
                have x0 := AX2.cell 0 rfl
                have x2 := AX2.cell 2 rfl
                have x3 := AX2.cell 3 rfl
                clear H2 AX2 Hout H1 AX1
                generalize tD W B 6 xt xa = y at *
                go_wp2_with fail
                refine (HD.out _ HH.out).mono ?_
                rintro e y3 ⟨rfl, D⟩
                have H3 := Both.stepQ HH.out D
                clear HD D HH HA
                go_wp2_with fail
                go_roundw
                case rel => exact ⟨k + 1, _, _, _, _, by omega, by go_num, by omega, by omega, by omega, by omega, by rw [wD_len]; exact e1, by rw [bD_len]; exact e2, H3⟩
                case measure => simp [intOf]; omega
          · have z5 : (xk == 5) = false := by simp; omega
            have z6 : (xk == 6) = false := by simp; omega
            go_upto_region 17 with fail
            go_wp2_with fail
            refine HD.out.mono ?_
            rintro e y2 ⟨rfl, D⟩
            have H2 := H1.stepP D
            have AX2 := AX1.ch D.ch hP
            clear HD D x0 x1 x2 x3
            have x1 := AX2.cell 1 rfl
            by_cases ht : xt < 0
            · obtain ⟨o1, o2, o3⟩ := Hout.out (fun _ => .inl ht) (fun _ => .inl ht)
              rw [o2, o3] at H2
              rw [o1]
              clear o1 o2 o3 Hout H1 AX1
              go_wp2_with fail
              go_roundw
              case rel => exact ⟨k + 1, _, _, W, B, by omega, by go_num, by omega, by omega, s20, by omega, e1, e2, H2⟩
              case measure => simp [intOf]; omega
            · by_cases hm : (N : Int) ≤ xt
              · obtain ⟨o1, o2, o3⟩ := Hout.out (fun _ => by omega) (fun _ => by omega)
                rw [o2, o3] at H2
                rw [o1]
                clear o1 o2 o3 Hout H1 AX1
                go_wp2_with fail
                go_roundw
                case rel => exact ⟨k + 1, _, _, W, B, by omega, by go_num, by omega, by omega, s20, by omega, e1, e2, H2⟩
                case measure => simp [intOf]; omega
              · have ht0 : 0 ≤ xt := by omega
                have ht1 : xt < (N : Int) := by omega
                have HD := Lib.hid (fun (s : World) (hs : Both w s w2.heap.size d1 ws1 m1 bw1 bb1 d2 ws2 m2 bw2 bb2 (s1 + 1) s2 (.pointer none) (.pointer none) (wD W xk xt xa xb) (bD B xk xt xa) W B) => does_any xk xt xa xb s hs.q.port hs.q.mem s20 (by omega) (by omega) (by omega) oa0 oa1 ob0 ob1)
                have HH := Lib.hid H2
                have HA := Lib.hid AX2
                have x0 := AX2.cell 0 rfl
                have x2 := AX2.cell 2 rfl
                have x3 := AX2.cell 3 rfl
                clear H2 AX2 Hout H1 AX1
                generalize tD W B xk xt xa = y at *
                go_wp2_with fail
                refine (HD.out _ HH.out).mono ?_
                rintro e y3 ⟨rfl, D⟩
                have H3 := Both.stepQ HH.out D
                clear HD D HH HA
                go_wp2_with fail
                go_roundw
                case rel => exact ⟨k + 1, _, _, _, _, by omega, by go_num, by omega, by omega, by omega, by omega, by rw [wD_len]; exact e1, by rw [bD_len]; exact e2, H3⟩
                case measure => simp [intOf]; omega
        · go_wp2_with fail
          refine (HI.out _).mono ?_
          rintro e y1 ⟨rfl, b1⟩
          rw [decide_eq_false his]
          have H1 := H'.after b1
          clear H' AX x0 x1 x2 x3 HI b1
          go_wp2_with fail
          go_roundw
          case rel => exact ⟨k + 1, _, _, W, B, by omega, by go_num, s10, by omega, s20, by omega, e1, e2, H1⟩
          case measure => simp [intOf]; omega
      · obtain rfl : k = n := by omega
        clear HRW hkn hk
        have s11 : s1 ≤ 60 := by omega
        have s21 : s2 ≤ 60 := by omega
        go_wp2_with fail
        go_loopw [15] (fun i wr => ∃ (j : Nat) (s1 s2 : Int), j ≤ N ∧ i = .int .i64 j ∧ 0 ≤ s1 ∧ s1 ≤ 60 + j ∧ 0 ≤ s2 ∧ s2 ≤ 60 + j ∧ Both w wr w2.heap.size d1 ws1 m1 bw1 bb1 d2 ws2 m2 bw2 bb2 s1 s2 (.pointer none) (.pointer none) W B W B) (fun i _ => N - (intOf i).toNat)
        case atStart => exact ⟨0, s1, s2, by omega, rfl, s10, by omega, s20, by omega, H⟩
        case round =>
          clear H s10 s11 s20 s21
          obtain ⟨j, s3, s4, hj, rfl, s10, s11, s20, s21, H⟩ := hrel
          by_cases hjn : j < N
          · have HH := Lib.hid H
            clear H
            go_wp2_with fail
            refine (p_load j _ HH.out.p.port HH.out.p.mem s10 (by omega)).mono ?_
            rintro e y1 ⟨rfl, D1⟩
            have H1 := Lib.hid (Both.stepP HH.out D1)
            clear D1 HH
            rw [(load_D W B j).1, (load_D W B j).2] at H1
            go_wp2_with fail
            refine (p_load j _ H1.out.q.port H1.out.q.mem s20 (by omega)).mono ?_
            rintro e y2 ⟨rfl, D2⟩
            have H2 := Lib.hid (Both.stepQ H1.out D2)
            clear D2 H1
            rw [(load_D W B j).1, (load_D W B j).2] at H2
            generalize tD W B 1 j 0 = y at *
            go_wp2_with fail
            go_roundw
            case rel => exact ⟨j + 1, _, _, by omega, by go_num, by omega, by omega, by omega, by omega, H2.out⟩
            case measure => simp [intOf]; omega
          · obtain rfl : j = N := by omega
            have s11 : s3 ≤ 80 := by omega
            have s21 : s4 ≤ 80 := by omega
            go_wp2_with fail
            go_loopw [16] (fun i wr => ∃ (j : Nat) (s1 s2 : Int), j ≤ K ∧ i = .int .i64 j ∧ 0 ≤ s1 ∧ s1 ≤ 80 + j ∧ 0 ≤ s2 ∧ s2 ≤ 80 + j ∧ Both w wr w2.heap.size d1 ws1 m1 bw1 bb1 d2 ws2 m2 bw2 bb2 s1 s2 (.pointer none) (.pointer none) W B W B) (fun i _ => K - (intOf i).toNat)
            case atStart => exact ⟨0, s3, s4, by omega, rfl, s10, by omega, s20, by omega, H⟩
            case round =>
              clear H s10 s11 s20 s21
              obtain ⟨j, s3, s4, hj, rfl, s10, s11, s20, s21, H⟩ := hrel
              by_cases hjn : j < K
              · have HH := Lib.hid H
                clear H
                go_wp2_with fail
                refine (p_get j _ HH.out.p.port HH.out.p.mem s10 (by omega)).mono ?_
                rintro e y1 ⟨rfl, D1⟩
                have H1 := Lib.hid (Both.stepP HH.out D1)
                clear D1 HH
                rw [(get_D W B j).1, (get_D W B j).2] at H1
                go_wp2_with fail
                refine (p_get j _ H1.out.q.port H1.out.q.mem s20 (by omega)).mono ?_
                rintro e y2 ⟨rfl, D2⟩
                have H2 := Lib.hid (Both.stepQ H1.out D2)
                clear D2 H1
                rw [(get_D W B j).1, (get_D W B j).2] at H2
                generalize IntKind.u8.wrap (tD W B 5 j 0) = y at *
                go_wp2_with fail
                go_roundw
                case rel => exact ⟨j + 1, _, _, by omega, by go_num, by omega, by omega, by omega, by omega, H2.out⟩
                case measure => simp [intOf]; omega
              · obtain rfl : j = K := by omega
                have hF := H.p.below
                clear H
                go_wp2_with fail
                refine (awake4_any _).mono ?_
                rintro e y7 ⟨rfl, bb7⟩
                go_wp2_with fail
                go_ret
                exact ⟨rfl, bnext hF bb7⟩
end Go.Proofs.Ytmdagppeeejikaa
