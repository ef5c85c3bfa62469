/- The walk of PortTells. Condition: the numbers fit their kinds. -/
import Derived.Test.YtmdagppeeejikaaNi
import Derived.Test.YtmdagppeeejikaaLr
import Derived.Deep.RegionWith
namespace Go.Proofs.Ytmdagppeeejikaa
open Go.RowKit
set_option linter.unusedVariables false
set_option linter.unusedSimpArgs false

theorem wpList_load_res {ops : Array Oper} {rest : List Oper} {o : Oper} {a : Act} {w : World} {Q : Exit → Act → World → Prop} (hgd : o.guard = none) (x : Operand) (ho : o.op = .load 70 x) (b o' : Nat)
    (hx : a.eval x = .pointer (some ⟨b, o', none⟩)) (v : Nat → Int) (hc : w.rangeAt b o' (res v).toList) (h : wpList Try.prog ops Q rest (a.put o.dst (.agg (res v))) w) : wpList Try.prog ops Q (o :: rest) a w :=
  wpList_load_mid hgd 70 x ho b o' hx (res v).toList _ hc Try.underlying70 rfl (info70 v) h

set_option maxRecDepth 100000 in
set_option maxHeartbeats 8000000 in
theorem tells_walk (ao : Option Addr) (nt ct : Nat) (R : Nat → Nat → Int) (bo : Option Addr) (n cap : Nat) (X : Nat → Acc) (w : World) (RR : RRow w ao nt R) (RW : ARow w bo n X) :
    Calls Try.prog 13 #[.slice ao nt ct, .slice bo n cap] w fun e w' => e = .returned (.bool true) ∧ Below w.heap.size w w' := by
  have early : 60 < nt ∨ 60 < n → Calls Try.prog 13 #[.slice ao nt ct, .slice bo n cap] w fun e w' => e = .returned (.bool true) ∧ Below w.heap.size w w' := by
    intro h
    clear RR RW
    by_cases h1 : 60 < nt
    · clear h
      go_enter Try.func13, Try.ntmps13
      go_wp2_with fail
      refine (awake4_any _).mono ?_
      rintro e w6 ⟨rfl, b6⟩
      go_wp2_with fail
      go_ret
      exact ⟨rfl, b6⟩
    · have h2 : 60 < n := by omega
      clear h
      go_enter Try.func13, Try.ntmps13
      go_wp2_with fail
      refine (awake4_any _).mono ?_
      rintro e w6 ⟨rfl, b6⟩
      go_wp2_with fail
      go_ret
      exact ⟨rfl, b6⟩
  by_cases h60 : 60 < nt
  · exact early (.inl h60)
  by_cases h61 : 60 < n
  · exact early (.inr h61)
  clear early
  have HRW := Lib.hid RW
  have HRR := Lib.hid RR
  clear RW RR
  go_enter Try.func13, Try.ntmps13
  go_wp2_with fail
  refine (of_any (Below.refl _ w) 10 10 (by decide) (by decide)).mono ?_
  rintro e w1 ⟨m1, bw1, bb1, rfl, H0⟩
  go_wp2_with fail
  refine (p_new m1 0 _).mono ?_
  rintro e w2 ⟨d1, ws1, rfl, P, b, l1, l2⟩
  have H1 := PH.made H0 P b l1 l2
  clear P b l1 l2 H0
  go_wp2_with fail
  refine (of_any (Below.refl _ w2) 10 10 (by decide) (by decide)).mono ?_
  rintro e w3 ⟨m2, bw2, bb2, rfl, H0⟩
  go_wp2_with fail
  refine (p_new m2 0 _).mono ?_
  rintro e w4 ⟨d2, ws2, rfl, P, b, l1, l2⟩
  have H := Both.made H1 H0 P b l1 l2
  clear P b l1 l2 H0 H1
  go_wp2_with fail
  go_loopw [7, 8] (fun q i wr => ∃ (k : Nat) (c : Int) (t1 : Value) (W B : List Int), k ≤ n ∧ i = .int .i64 k ∧ q = .int .i64 c ∧ 0 ≤ c ∧ c ≤ k ∧ (t1 = .pointer none ↔ nt = 0 ∨ k = 0) ∧ Tld wr t1 ∧ Both w wr w2.heap.size d1 ws1 m1 bw1 bb1 d2 ws2 m2 bw2 bb2 c c t1 (.pointer none) W B W B) (fun _ i _ => n - (intOf i).toNat)
  case atStart => exact ⟨0, 0, .pointer none, _, _, by omega, rfl, rfl, by omega, by omega, by simp, .inl rfl, H⟩
  case round =>
    clear H
    obtain ⟨k, c, t1, W, B, hk, rfl, rfl, c0, c1, ht1, T, H⟩ := hrel
    by_cases hkn : k < n
    · obtain ⟨b, off, rfl, hlt, hc⟩ := HRW.out.row k hkn
      have hok := HRW.out.ok k hkn
      have hcx := Lib.hid hc
      have hltx := Lib.hid hlt
      generalize X k = x at *
      obtain ⟨xk, xt, xa, xb⟩ := x
      obtain ⟨ok0, ok1, ot0, ot1, oa0, oa1, ob0, ob1⟩ := hok
      dsimp only at ok0 ok1 ot0 ot1 oa0 oa1 ob0 ob1
      have HI := Lib.hid (fun w => is_any xk xt xa xb w ok0 ok1)
      by_cases hkt : k < nt
      · obtain ⟨b', off', rfl, hlt', hr⟩ := HRR.out.row k hkt
        have hrr := range_below hr H.p.below hlt'
        have hltw : b' < wr.heap.size := Nat.lt_of_lt_of_le hlt' H.p.below.size
        generalize R k = v at *
        go_wp2_with (refine wpList_load_res rfl (.tmp 45) rfl b' (off' + k * 11) rfl v hrr ?_)
        refine (p_tell v _ H.p.port).mono ?_
        rintro e y1 ⟨rfl, Q, A, ch⟩
        have H1 := H.tell Q ch
        have hr1 := range_below hr H1.p.below hlt'
        have hlt1 : b' < y1.heap.size := Nat.lt_of_lt_of_le hlt' H1.p.below.size
        clear Q ch T ht1 H hrr hltw
        go_wp2_with fail
        refine (p_told_yes v _ H1.p.port A).mono ?_
        rintro e y2 ⟨rfl, b2⟩
        have H2 := H1.after b2
        have A2 := A.below b2
        have hr2 := range_below hr1 b2 hlt1
        have hlt2 : b' < y2.heap.size := Nat.lt_of_lt_of_le hlt1 b2.size
        clear H1 A hr1 hlt1
        go_upto_region 14 with (refine wpList_new_res rfl (.tmp 9) (.tmp 51) rfl rfl v rfl ?_; intro W2 A3 BW)
        have H3 := H2.after BW
        have A4 := A2.below BW
        have hr3 := range_below hr2 BW hlt2
        have hlt3 : b' < W2.heap.size := Nat.lt_of_lt_of_le hlt2 BW.size
        clear H2 A2 hr2 hlt2 BW b2
        have L1 := load_row A3
        have L2 := load_at hr3 hlt3
        clear A3 hr3 hlt3
        have nq := fun w => neq70 v w
        have gq := fun (x y : Operand) w => gd70 v x y w
        refine region_below (by kernel_rfl) (by kernel_rfl) ?_
        repeat (first | (go_big_quiet_want; refine quiet_load rfl rfl L1 ?_; simp only [Act.put, List.setIfInBounds_toArray, List.set_cons_succ, List.set_cons_zero]; go_big_quiet_on) | (go_big_quiet_want; refine quiet_load rfl rfl L2 ?_; simp only [Act.put, List.setIfInBounds_toArray, List.set_cons_succ, List.set_cons_zero]; go_big_quiet_on) | go_big_quiet_step (fail))
        refine wpQuiet_nil ?_
        rintro w5 ⟨s, rfl⟩
        have H5 := H3.after s.2
        have T5 : Tld s.1 (.pointer (some ⟨wr.heap.size, 0, none⟩)) := .inr ⟨_, v, rfl, A4.below s.2⟩
        generalize hx : wr.heap.size = x5 at *
        generalize s.1 = V5 at *
        clear L1 L2 H3 A4 nq gq hr
        have hnt : nt ≠ 0 := by omega
        have HC := Lib.hid (fun (s : World) (hb : Below w.heap.size w s) => hcx.out.below hltx.out hb)
        obtain ⟨g0, g1, g2, g3⟩ := HC.out _ H5.p.below
        dsimp only at g0 g1 g2 g3
        have HH := Lib.hid (H5.after (Below.refl _ V5).drew)
        have HT := Lib.hid (T5.below (Below.refl _ V5).drew)
        clear H5 T5 hc hlt
        by_cases his : 1 ≤ xk ∧ xk ≤ 6
        · have HD1 := Lib.hid (fun (s : World) (hs : Both w s w2.heap.size d1 ws1 m1 bw1 bb1 d2 ws2 m2 bw2 bb2 c c (.pointer (some ⟨x5, 0, none⟩)) (.pointer none) W B W B) => does_any xk xt xa xb s hs.p.port hs.p.mem c0 (by omega) his.1 his.2 oa0 oa1 ob0 ob1)
          have HD2 := Lib.hid (fun (s : World) (hs : Both w s w2.heap.size d1 ws1 m1 bw1 bb1 d2 ws2 m2 bw2 bb2 (c + 1) c (.pointer (some ⟨x5, 0, none⟩)) (.pointer none) (wD W xk xt xa xb) (bD B xk xt xa) W B) => does_any xk xt xa xb s hs.q.port hs.q.mem c0 (by omega) his.1 his.2 oa0 oa1 ob0 ob1)
          generalize tD W B xk xt xa = y at *
          go_upto_region 16 with fail
          go_region_with (first
            | (go_at_call_of 32 d1; refine (HD1.out _ HH.out).mono ?_; rintro e y1 ⟨rfl, D1⟩; obtain ⟨i0, i1, i2, i3⟩ := HC.out _ (Both.stepP HH.out D1).p.below; dsimp only at i0 i1 i2 i3)
            | (go_at_call_of 32 d2; refine (HD2.out _ (Both.stepP HH.out D1)).mono ?_; rintro e y2 ⟨rfl, D2⟩))
          all_goals
            have HX := Both.stepP HH.out D1
            have H6 := Both.stepQ HX D2
            have T6 := Tld.did (Tld.did HT.out HH.out.p.port HH.out.p.mem D1) HX.q.port HX.q.mem D2
            obtain ⟨j0, j1, j2, j3⟩ := HC.out _ H6.p.below
            dsimp only at j0 j1 j2 j3
            clear HX D1 D2 HH HT HD1 HD2
            go_wp2_with fail
            refine (HI.out _).mono ?_
            rintro e y3 ⟨rfl, b3⟩
            rw [decide_eq_true his]
            have H7 := H6.after b3
            have T7 := T6.below b3
            clear H6 T6 b3 j0 j1 j2 j3
            go_wp2_with fail
            refine (p_steps _ H7.p.port).mono ?_
            rintro e y4 ⟨rfl, hw⟩
            have hw := hw.symm
            subst hw
            go_wp2_with fail
            go_roundw
            case rel => exact ⟨k + 1, c + 1, _, _, _, by omega, by go_num, by go_num, by omega, by omega, by simp; omega, T7, H7⟩
            case measure => simp [intOf]; omega
        · have HD := Lib.hid (fun (v : Value) (s : World) => does0 v xk xt xa xb s ok0 ok1 (by omega))
          go_upto_region 16 with fail
          go_region_with (first
            | (go_at_call_of 32 d1; refine (HD.out _ _).mono ?_; rintro e y1 ⟨rfl, D1⟩; obtain ⟨i0, i1, i2, i3⟩ := HC.out _ (HH.out.after D1).p.below; dsimp only at i0 i1 i2 i3)
            | (go_at_call_of 32 d2; refine (HD.out _ _).mono ?_; rintro e y2 ⟨rfl, D2⟩))
          all_goals
            have H6 := (HH.out.after D1).after D2
            have T6 := (HT.out.below D1).below D2
            obtain ⟨j0, j1, j2, j3⟩ := HC.out _ H6.p.below
            dsimp only at j0 j1 j2 j3
            clear D1 D2 HH HT HD
            go_wp2_with fail
            refine (HI.out _).mono ?_
            rintro e y3 ⟨rfl, b3⟩
            rw [decide_eq_false his]
            have H7 := H6.after b3
            have T7 := T6.below b3
            clear H6 T6 b3 j0 j1 j2 j3
            go_wp2_with fail
            refine (p_steps _ H7.p.port).mono ?_
            rintro e y4 ⟨rfl, hw⟩
            have hw := hw.symm
            subst hw
            go_wp2_with fail
            go_roundw
            case rel => exact ⟨k + 1, c, _, _, _, by omega, by go_num, rfl, by omega, by omega, by simp; omega, T7, H7⟩
            case measure => simp [intOf]; omega
      · have ht1' : t1 = .pointer none ↔ nt = 0 ∨ k + 1 = 0 := by rw [ht1]; omega
        clear ht1
        have HC := Lib.hid (fun (s : World) (hb : Below w.heap.size w s) => hcx.out.below hltx.out hb)
        obtain ⟨g0, g1, g2, g3⟩ := HC.out _ H.p.below
        dsimp only at g0 g1 g2 g3
        have HH := Lib.hid (H.after (Below.refl _ wr).drew)
        have HT := Lib.hid (T.below (Below.refl _ wr).drew)
        clear H T hc hlt
        by_cases his : 1 ≤ xk ∧ xk ≤ 6
        · have HD1 := Lib.hid (fun (s : World) (hs : Both w s w2.heap.size d1 ws1 m1 bw1 bb1 d2 ws2 m2 bw2 bb2 c c t1 (.pointer none) W B W B) => does_any xk xt xa xb s hs.p.port hs.p.mem c0 (by omega) his.1 his.2 oa0 oa1 ob0 ob1)
          have HD2 := Lib.hid (fun (s : World) (hs : Both w s w2.heap.size d1 ws1 m1 bw1 bb1 d2 ws2 m2 bw2 bb2 (c + 1) c t1 (.pointer none) (wD W xk xt xa xb) (bD B xk xt xa) W B) => does_any xk xt xa xb s hs.q.port hs.q.mem c0 (by omega) his.1 his.2 oa0 oa1 ob0 ob1)
          generalize tD W B xk xt xa = y at *
          go_upto_region 16 with fail
          go_region_with (first
            | (go_at_call_of 32 d1; refine (HD1.out _ HH.out).mono ?_; rintro e y1 ⟨rfl, D1⟩; obtain ⟨i0, i1, i2, i3⟩ := HC.out _ (Both.stepP HH.out D1).p.below; dsimp only at i0 i1 i2 i3)
            | (go_at_call_of 32 d2; refine (HD2.out _ (Both.stepP HH.out D1)).mono ?_; rintro e y2 ⟨rfl, D2⟩))
          all_goals
            have HX := Both.stepP HH.out D1
            have H6 := Both.stepQ HX D2
            have T6 := Tld.did (Tld.did HT.out HH.out.p.port HH.out.p.mem D1) HX.q.port HX.q.mem D2
            obtain ⟨j0, j1, j2, j3⟩ := HC.out _ H6.p.below
            dsimp only at j0 j1 j2 j3
            clear HX D1 D2 HH HT HD1 HD2
            go_wp2_with fail
            refine (HI.out _).mono ?_
            rintro e y3 ⟨rfl, b3⟩
            rw [decide_eq_true his]
            have H7 := H6.after b3
            have T7 := T6.below b3
            clear H6 T6 b3 j0 j1 j2 j3
            go_wp2_with fail
            refine (p_steps _ H7.p.port).mono ?_
            rintro e y4 ⟨rfl, hw⟩
            have hw := hw.symm
            subst hw
            go_wp2_with fail
            go_roundw
            case rel => exact ⟨k + 1, c + 1, _, _, _, by omega, by go_num, by go_num, by omega, by omega, ht1', T7, H7⟩
            case measure => simp [intOf]; omega
        · have HD := Lib.hid (fun (v : Value) (s : World) => does0 v xk xt xa xb s ok0 ok1 (by omega))
          go_upto_region 16 with fail
          go_region_with (first
            | (go_at_call_of 32 d1; refine (HD.out _ _).mono ?_; rintro e y1 ⟨rfl, D1⟩; obtain ⟨i0, i1, i2, i3⟩ := HC.out _ (HH.out.after D1).p.below; dsimp only at i0 i1 i2 i3)
            | (go_at_call_of 32 d2; refine (HD.out _ _).mono ?_; rintro e y2 ⟨rfl, D2⟩))
          all_goals
            have H6 := (HH.out.after D1).after D2
            have T6 := (HT.out.below D1).below D2
            obtain ⟨j0, j1, j2, j3⟩ := HC.out _ H6.p.below
            dsimp only at j0 j1 j2 j3
            clear D1 D2 HH HT HD
            go_wp2_with fail
            refine (HI.out _).mono ?_
            rintro e y3 ⟨rfl, b3⟩
            rw [decide_eq_false his]
            have H7 := H6.after b3
            have T7 := T6.below b3
            clear H6 T6 b3 j0 j1 j2 j3
            go_wp2_with fail
            refine (p_steps _ H7.p.port).mono ?_
            rintro e y4 ⟨rfl, hw⟩
            have hw := hw.symm
            subst hw
            go_wp2_with fail
            go_roundw
            case rel => exact ⟨k + 1, c, _, _, _, by omega, by go_num, rfl, by omega, by omega, ht1', T7, H7⟩
            case measure => simp [intOf]; omega
    · obtain rfl : k = n := by omega
      clear HRW HRR hkn hk
      rcases T with rfl | ⟨x, v, rfl, A⟩
      · have hz := ht1.1 rfl
        clear ht1
        go_wp2_with fail
        refine (p_told_no _ H.p.port).mono ?_
        rintro e y1 ⟨rfl, b⟩
        have H2 := H.after b
        clear H b
        go_upto_region 23 with (refine wpList_new_res rfl (.tmp 11) (.tmp 92) rfl rfl (fun _ => 0) rfl ?_; intro W2 A3 BW)
        have H3 := H2.after BW
        clear H2 A3 BW
        by_cases hn0 : nt = 0
        · subst hn0
          clear hz
          go_wp2_with fail
          refine (p_fresh _ H3.p.port).mono ?_
          rintro e z1 ⟨rfl, Q, ch⟩
          have H8 := H3.fresh Q ch
          clear Q ch H3
          go_wp2_with fail
          refine (p_told_no _ H8.p.port).mono ?_
          rintro e z2 ⟨rfl, b⟩
          have H9 := H8.after b
          clear H8 b
          go_wp2_with fail
          refine (p_steps _ H9.p.port).mono ?_
          rintro e y4 ⟨rfl, hw⟩
          have hw := hw.symm
          subst hw
          go_wp2_with fail
          refine (p_load 3 _ H9.p.port H9.p.mem (by decide) (by decide)).mono ?_
          rintro e z3 ⟨rfl, D⟩
          have HA := H9.stepP D
          clear H9 D
          go_wp2_with fail
          refine (p_load 3 _ HA.q.port HA.q.mem c0 (by omega)).mono ?_
          rintro e z4 ⟨rfl, D⟩
          have HB := (HA.stepQ D).p.below
          clear HA D
          generalize tD W B 1 3 0 = y at *
          go_wp2_with fail
          refine (awake4_any _).mono ?_
          rintro e z5 ⟨rfl, b⟩
          go_wp2_with fail
          go_ret
          exact ⟨rfl, bnext HB b⟩
        · obtain rfl : k = 0 := by omega
          have hp : decide ((nt : Int) > 0) = true := decide_eq_true (by omega)
          have hp2 : decide (0 < (nt : Int)) = true := decide_eq_true (by omega)
          clear hz
          go_wp2_with fail
          refine (p_fresh _ H3.p.port).mono ?_
          rintro e z1 ⟨rfl, Q, ch⟩
          have H8 := H3.fresh Q ch
          clear Q ch H3
          go_wp2_with fail
          refine (p_told_no _ H8.p.port).mono ?_
          rintro e z2 ⟨rfl, b⟩
          have H9 := H8.after b
          clear H8 b
          go_wp2_with fail
          refine (p_steps _ H9.p.port).mono ?_
          rintro e y4 ⟨rfl, hw⟩
          have hw := hw.symm
          subst hw
          go_wp2_with fail
          refine (p_load 3 _ H9.p.port H9.p.mem (by decide) (by decide)).mono ?_
          rintro e z3 ⟨rfl, D⟩
          have HA := H9.stepP D
          clear H9 D
          go_wp2_with fail
          refine (p_load 3 _ HA.q.port HA.q.mem c0 (by omega)).mono ?_
          rintro e z4 ⟨rfl, D⟩
          have HB := (HA.stepQ D).p.below
          clear HA D
          generalize tD W B 1 3 0 = y at *
          go_wp2_with fail
          refine (awake4_any _).mono ?_
          rintro e z5 ⟨rfl, b⟩
          go_wp2_with fail
          go_ret
          exact ⟨rfl, bnext HB b⟩
      · have hz : ¬ (nt = 0 ∨ k = 0) := fun h => by simpa using ht1.2 h
        clear ht1
        have hp : decide (0 < nt) = true := decide_eq_true (by omega)
        have hq : decide (0 < k) = true := decide_eq_true (by omega)
        have hp0 : 0 < nt := by omega
        have hq0 : 0 < k := by omega
        clear hz
        go_wp2_with fail
        refine (p_told_yes v _ H.p.port A).mono ?_
        rintro e y1 ⟨rfl, b⟩
        have H2 := H.after b
        clear H b A
        go_upto_region 23 with (refine wpList_new_res rfl (.tmp 11) (.tmp 92) rfl rfl v rfl ?_; intro W2 A3 BW)
        have H3 := H2.after BW
        clear H2 A3 BW
        go_wp2_with fail
        refine (p_fresh _ H3.p.port).mono ?_
        rintro e z1 ⟨rfl, Q, ch⟩
        have H8 := H3.fresh Q ch
        clear Q ch H3
        go_wp2_with fail
        refine (p_told_no _ H8.p.port).mono ?_
        rintro e z2 ⟨rfl, b⟩
        have H9 := H8.after b
        clear H8 b
        go_wp2_with fail
        refine (p_steps _ H9.p.port).mono ?_
        rintro e y4 ⟨rfl, hw⟩
        have hw := hw.symm
        subst hw
        go_wp2_with fail
        refine (p_load 3 _ H9.p.port H9.p.mem (by decide) (by decide)).mono ?_
        rintro e z3 ⟨rfl, D⟩
        have HA := H9.stepP D
        clear H9 D
        go_wp2_with fail
        refine (p_load 3 _ HA.q.port HA.q.mem c0 (by omega)).mono ?_
        rintro e z4 ⟨rfl, D⟩
        have HB := (HA.stepQ D).p.below
        clear HA D
        generalize tD W B 1 3 0 = y at *
        go_wp2_with fail
        refine (awake4_any _).mono ?_
        rintro e z5 ⟨rfl, b⟩
        go_wp2_with fail
        go_ret
        exact ⟨rfl, bnext HB b⟩
end Go.Proofs.Ytmdagppeeejikaa
