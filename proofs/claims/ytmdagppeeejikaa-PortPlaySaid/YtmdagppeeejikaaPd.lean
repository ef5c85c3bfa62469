/- The walk of PortPlay. Condition: the numbers fit their kinds. -/
import Derived.Test.YtmdagppeeejikaaPc
import Derived.Test.YtmdagppeeejikaaNe
import Derived.Deep.RegionWith
namespace Go.Proofs.Ytmdagppeeejikaa
open Go.RowKit
set_option linter.unusedVariables false
set_option linter.unusedSimpArgs false

theorem tD_word (W B : List Int) (j : Nat) (h : j < W.length) : tD W B 1 j 0 = W.getD j 0 := by
  rw [tD_yes _ _ _ _ _ h (by decide) (by decide)]
  simp [toldW]
theorem tD_byte (W B : List Int) (j : Nat) (h : j < B.length) (hw : ∀ x ∈ B, 0 ≤ x ∧ x < 256) : IntKind.u8.wrap (tD W B 5 j 0) = B.getD j 0 := by
  rw [(tD_5 W B j 0 hw).1]
  simp [tD, inW, inB, h]
theorem at_load (W B : List Int) (j : Nat) : wD W 1 j 0 0 = W ∧ bD B 1 j 0 = B := load_D W B j
/-- the result that a turn tells -/
def rn (k : Int) : Nat → Int
  | 1 => k
  | _ => 0

set_option maxRecDepth 100000 in
set_option maxHeartbeats 8000000 in
theorem play_walk (q r : Int) (ao : Option Addr) (n cap : Nat) (X : Nat → Acc) (bo : Option Addr) (nt ct : Nat) (Z : Nat → Bool) (w : World) (q0 : 0 ≤ q) (q1 : q ≤ 255) (r0 : 0 ≤ r) (r1 : r ≤ 255) (RW : ARow w ao n X) (RB : BRow w bo nt Z) :
    Calls Try.prog 11 #[.int .u8 q, .int .u8 r, .slice ao n cap, .slice bo nt ct] w fun e w' => e = .returned (.bool true) ∧ Below w.heap.size w w' := by
  by_cases h60 : 200 < n
  · clear RW RB
    go_enter Try.func11, Try.ntmps11
    go_wp2_with fail
    refine (awake4_any _).mono ?_
    rintro e w6 ⟨rfl, b6⟩
    go_wp2_with fail
    go_ret
    exact ⟨rfl, b6⟩
  · have HRW := Lib.hid RW
    have HRB := Lib.hid RB
    have hntl := RB.len
    clear RW RB
    obtain ⟨N, hN⟩ : ∃ N : Nat, q % 41 = N := ⟨(q % 41).toNat, by omega⟩
    obtain ⟨K, hK⟩ : ∃ K : Nat, r % 41 = K := ⟨(r % 41).toNat, by omega⟩
    have hN1 : N ≤ 40 := by omega
    have hK1 : K ≤ 40 := by omega
    have HNew := Lib.hid (of_any (Below.refl _ w) N K (by omega) (by omega))
    have HRef := Lib.hid (fun w => ref4_new N K w (by omega) (by omega))
    go_enter Try.func11, Try.ntmps11
    go_wp2_with fail
    refine HNew.out.mono ?_
    rintro e w1 ⟨m, bw, bb, rfl, H0⟩
    go_wp2_with fail
    refine (p_new m 0 _).mono ?_
    rintro e w2 ⟨d1, ws1, rfl, P, b1, l1, l2⟩
    go_wp2_with fail
    refine (p_new m 1 _).mono ?_
    rintro e w3 ⟨d2, ws2, rfl, Q, b2, l3, l4⟩
    go_wp2_with fail
    refine (HRef.out _).mono ?_
    rintro e w4 ⟨v1, v2, rfl, hR, b3⟩
    clear HNew HRef hN hK
    have hr : (w4.alloc (.cells #[.slice none 0 0, .slice none 0 0] 62)).heap[w4.heap.size]? = some (.cells #[.slice none 0 0, .slice none 0 0] 62 (0, 0)) := heap_alloc_new _ _
    obtain ⟨a1, c1, rfl⟩ := own_shape hR.words
    obtain ⟨a2, c2, rfl⟩ := own_shape hR.bytes
    go_upto_region 11 with (refine wpList_store_row rfl 62 (.tmp 14) (.tmp 47) rfl w4.heap.size #[.slice a1 (zeros N).length c1, .slice a2 (zeros K).length c2] rfl rfl 62 _ hr (info62 _ _) rfl (one41 _ _ _ _ _ _) ?_)
    generalize hW : World.setRow _ _ _ = V
    have A4 : At V w4.heap.size #[.slice a1 (zeros N).length c1, .slice a2 (zeros K).length c2] 62 := hW ▸ setRow_heap _ _ _ _ _ _ hr
    have b4 : Below w4.heap.size w4 V := hW ▸ below_setRow ((Below.refl _ w4).alloc (Nat.le_refl _) _) (Nat.le_refl _) _
    have b5 : Below w3.heap.size w3 V := bnext b3 b4
    have b6 : Below w2.heap.size w2 V := bnext b2 b5
    have b7 : Below w1.heap.size w1 V := bnext b1 b6
    have S : Shared w V w3.heap.size w4.heap.size d1 ws1 d2 ws2 m bw bb 0 0 (.pointer none) (.slice a1 (zeros N).length c1) (.slice a2 (zeros K).length c2) (zeros N) (zeros K) (zeros N) (zeros K) := by
      have z0 := H0.below.size
      have z1 := b1.size
      have z2 := b2.size
      have z3 := b3.size
      have t1 := H0.mem.top.lt
      have t2 := H0.mem.words.lt
      have t3 := H0.mem.bytes.lt
      have t4 := P.top.lt
      have t5 := P.ways.lt
      have t6 := Q.top.lt
      have t7 := Q.ways.lt
      have g1 := H0.lw
      have g2 := H0.lb
      exact ⟨H0.mem.below b7, P.below b6, Q.below b5, hR.below b4, A4, bnext H0.below b7, by omega, by omega, by omega, by omega, by omega, by omega, by omega, by omega, by omega, by omega, by omega, by omega, by omega, by omega, by omega, by omega⟩
    clear hW hr A4 b4 b3 hR b5 b6 b7 b1 b2 P Q H0 l1 l2 l3 l4
    go_wp2_with fail
    go_loopw [15, 16, 17] (fun x1 x2 i wr => ∃ (k : Nat) (n1 n2 : Int) (t2 v1 v2 : Value) (W B : List Int), k ≤ n ∧ i = .int .i64 k ∧ x1 = .int .i64 n1 ∧ x2 = .int .i64 n2 ∧ 0 ≤ n1 ∧ 0 ≤ n2 ∧ n1 + n2 ≤ k ∧ W.length = N ∧ B.length = K ∧ Shared w wr w3.heap.size w4.heap.size d1 ws1 d2 ws2 m bw bb n1 n2 t2 v1 v2 W B W B) (fun _ _ i _ => n - (intOf i).toNat)
    case atStart => exact ⟨0, 0, 0, _, _, _, _, _, by omega, rfl, rfl, rfl, by omega, by omega, by omega, zeros_len N, zeros_len K, S⟩
    case round =>
      clear S
      obtain ⟨k, n1, n2, t2, v1, v2, W, B, hk, rfl, rfl, rfl, n10, n20, n12, e1, e2, S⟩ := hrel
      have E1 := Lib.hid e1
      have E2 := Lib.hid e2
      clear e1 e2
      by_cases hkn : k < n
      · obtain ⟨b, off, rfl, hlt, hc⟩ := HRW.out.row k hkn
        have hok := HRW.out.ok k hkn
        generalize X k = x at *
        obtain ⟨xk, xt, xa, xb⟩ := x
        obtain ⟨ok0, ok1, ot0, ot1, oa0, oa1, ob0, ob1⟩ := hok
        dsimp only at ok0 ok1 ot0 ot1 oa0 oa1 ob0 ob1
        have HC := Lib.hid (fun (s : World) (hb : Below w.heap.size w s) => hc.below hlt hb)
        have HI := Lib.hid (fun w => is_any xk xt xa xb w ok0 ok1)
        clear hc hlt
        obtain ⟨c0, c1', c2', c3⟩ := HC.out _ S.below
        dsimp only at c0 c1' c2' c3
        go_wp2_with fail
        refine (HI.out _).mono ?_
        rintro e y1 ⟨rfl, b1⟩
        have S1 := S.after b1
        clear S b1 c0 c1' c2' c3 HI
        by_cases his : 1 ≤ xk ∧ xk ≤ 6
        · rw [decide_eq_true his]
          have L1 := S1.mem.wlen
          have L2 := S1.mem.blen
          have BW := Lib.hid S1.mem.bwf
          obtain ⟨a3, c3, rfl⟩ := own_shape S1.ref.words
          obtain ⟨a4, c4, rfl⟩ := own_shape S1.ref.bytes
          have HD := Lib.hid (fun (s : World) (v1 v2 : Value) (hs : Ref s w3.heap.size v1 v2 W B) (hz : w3.heap.size ≤ s.heap.size) => show Calls Try.prog 38 #[.agg #[v1, v2], .agg #[.int .u8 xk, .int .i64 xt, .int .u64 xa, .int .u64 xb]] s (fun e w' => ∃ u1 u2, e = .returned (.tuple #[.agg #[u1, u2], .int .u64 (tD W B xk xt xa)]) ∧ Ref w' w3.heap.size u1 u2 (wD W xk xt xa xb) (bD B xk xt xa) ∧ Below s.heap.size s w') from ref4_do w3.heap.size v1 v2 W B s hs hz L1 L2 xk xt xa xb BW.out his.1 his.2 oa0 oa1)
          have HP := Lib.hid (fun (s : World) (t2 v1 v2 : Value) (W2 B2 : List Int) (hs : Shared w s w3.heap.size w4.heap.size d1 ws1 d2 ws2 m bw bb n1 n2 t2 v1 v2 W B W2 B2) => does_any xk xt xa xb s hs.p hs.mem n10 (by omega) his.1 his.2 oa0 oa1 ob0 ob1)
          have HQ := Lib.hid (fun (s : World) (t2 v1 v2 : Value) (W2 B2 : List Int) (hs : Shared w s w3.heap.size w4.heap.size d1 ws1 d2 ws2 m bw bb n1 n2 t2 v1 v2 W B W2 B2) => does_any xk xt xa xb s hs.q hs.mem n20 (by omega) his.1 his.2 oa0 oa1 ob0 ob1)
          generalize tD W B xk xt xa = told at *
          have r0 := S1.top.cell 0 rfl
          have r1 := S1.top.cell 1 rfl
          obtain ⟨x0, x1, x2, x3⟩ := HC.out _ S1.below
          dsimp only at x0 x1 x2 x3
          have hz : w3.heap.size ≤ y1.heap.size := by have := S1.top.lt; have := S1.u8; omega
          have HS := Lib.hid (S1.after (Below.refl _ y1).drew)
          clear S1
          go_upto_region 17 with fail
          go_region_with ((go_at_call 38; refine (HD.out _ _ _ HS.out.ref (by simpa using hz)).mono ?_; rintro e z1 ⟨v1', v2', rfl, hR, hb⟩; obtain ⟨a5, e5, rfl⟩ := own_shape hR.words; obtain ⟨a6, e6, rfl⟩ := own_shape hR.bytes; have A2 := (HS.out.after hb).top; have k0 := A2.cell 0 rfl; have k1 := A2.cell 1 rfl; have f0 := frozen_of_row _ _ 0 _ _ A2; have f1 := frozen_of_row _ _ 1 _ _ A2))
          all_goals
            have S2 := (HS.out.after hb).take hR
            clear A2 k0 k1 f0 f1 HS HD hR r0 r1 hz x0 x1 x2 x3
            generalize World.setCell (World.setCell z1 ⟨w4.heap.size, 0, none⟩ (.slice a5 (wD W xk xt xa xb).length e5)) ⟨w4.heap.size, 1, none⟩ (.slice a6 (bD B xk xt xa).length e6) = V at *
            obtain ⟨x0, x1, x2, x3⟩ := HC.out _ S2.below
            dsimp only at x0 x1 x2 x3
            by_cases hkt : k < nt
            · obtain ⟨b', off', rfl, hltb, hcb⟩ := HRB.out.row k hkt
              have cb := (S2.below.cell (p := ⟨b', off' + k, none⟩) hltb).trans hcb
              cases hzk : Z k
              · rw [hzk] at cb
                go_wp2_with fail
                refine (HP.out _ _ _ _ _ _ S2).mono ?_
                rintro e z2 ⟨rfl, D⟩
                have S3 := S2.stepP D
                clear D S2 HP HQ
                go_wp2_with fail
                go_roundw
                case rel => exact ⟨k + 1, n1 + 1, n2, _, _, _, _, _, by omega, by go_num, by go_num, rfl, by omega, n20, by omega, by rw [wD_len]; exact E1.out, by rw [bD_len]; exact E2.out, S3⟩
                case measure => simp [intOf]; omega
              · rw [hzk] at cb
                go_wp2_with fail
                rw [show (.agg #[.int .i64 0, .int .i64 (k : Int), .int .u8 0, .int .u64 0, .int .u64 0, .int .u64 0, .int .u64 0, .int .u64 0, .int .i64 0, .int .i64 0, .int .i64 0] : Value) = .agg (res (rn k)) from rfl]
                refine (p_tell (rn k) _ S2.q).mono ?_
                rintro e z2 ⟨rfl, Q, _, ch⟩
                have S4 := S2.tell Q ch
                clear Q ch S2 x0 x1 x2 x3
                obtain ⟨x0, x1, x2, x3⟩ := HC.out _ S4.below
                dsimp only at x0 x1 x2 x3
                go_wp2_with fail
                refine (HQ.out _ _ _ _ _ _ S4).mono ?_
                rintro e z3 ⟨rfl, D⟩
                have S3 := S4.stepQ D
                clear D S4 HP HQ x0 x1 x2 x3
                go_wp2_with fail
                go_roundw
                case rel => exact ⟨k + 1, n1, n2 + 1, _, _, _, _, _, by omega, by go_num, rfl, by go_num, n10, by omega, by omega, by rw [wD_len]; exact E1.out, by rw [bD_len]; exact E2.out, S3⟩
                case measure => simp [intOf]; omega
            · skip
              go_wp2_with fail
              refine (HP.out _ _ _ _ _ _ S2).mono ?_
              rintro e z2 ⟨rfl, D⟩
              have S3 := S2.stepP D
              clear D S2 HP HQ
              go_wp2_with fail
              go_roundw
              case rel => exact ⟨k + 1, n1 + 1, n2, _, _, _, _, _, by omega, by go_num, by go_num, rfl, by omega, n20, by omega, by rw [wD_len]; exact E1.out, by rw [bD_len]; exact E2.out, S3⟩
              case measure => simp [intOf]; omega
        · rw [decide_eq_false his]
          go_wp2_with fail
          go_roundw
          case rel => exact ⟨k + 1, n1, n2, _, _, _, _, _, by omega, by go_num, rfl, rfl, n10, n20, by omega, E1.out, E2.out, S1⟩
          case measure => simp [intOf]; omega
      · obtain rfl : k = n := by omega
        clear HRW HRB hkn hk
        have m1 : n1 ≤ 200 := by omega
        have m2 : n2 ≤ 200 := by omega
        have E1 := E1.out
        have E2 := E2.out
        go_wp2_with fail
        refine (p_steps _ S.p).mono ?_
        rintro e y1 ⟨rfl, hw⟩
        have hw := hw.symm
        subst hw
        go_wp2_with fail
        refine (p_steps _ S.q).mono ?_
        rintro e y1 ⟨rfl, hw⟩
        have hw := hw.symm
        subst hw
        go_wp2_with fail
        go_loopw [20] (fun i wr => ∃ (j : Nat) (s1 : Int), j ≤ N ∧ i = .int .i64 j ∧ 0 ≤ s1 ∧ s1 ≤ 200 + j ∧ Shared w wr w3.heap.size w4.heap.size d1 ws1 d2 ws2 m bw bb s1 n2 t2 v1 v2 W B W B) (fun i _ => N - (intOf i).toNat)
        case atStart => exact ⟨0, n1, by omega, rfl, n10, by omega, S⟩
        case round =>
          clear S
          obtain ⟨j, s1, hj, rfl, s10, s11, S⟩ := hrel
          by_cases hjn : j < N
          · have hjl : j < W.length := by rw [E1]; exact hjn
            obtain ⟨g, cg, hv1, _, hgl⟩ := own_open S.ref.words (by omega)
            have T := S.top
            rw [hv1] at T
            have q0 := T.cell 0 rfl
            have HO := Lib.hid (fun (s : World) (hs : Shared w s w3.heap.size w4.heap.size d1 ws1 d2 ws2 m bw bb (s1 + 1) n2 t2 v1 v2 W B W B) => (show At s w4.heap.size #[.slice (some ⟨g, 0, none⟩) W.length cg, v2] 62 from hv1 ▸ hs.top))
            have hval : (W.map (Value.int .u64))[j]? = some (.int .u64 (W.getD j 0)) := by simp [List.getD, hjl]
            have HW := Lib.hid (fun (s : World) (s1 : Int) (hs : Shared w s w3.heap.size w4.heap.size d1 ws1 d2 ws2 m bw bb s1 n2 t2 v1 v2 W B W B) => (show s.cell? ⟨g, j, none⟩ = some (.int .u64 (W.getD j 0)) from by have h := hs.ref.words; rw [hv1] at h; exact (h.cellAt j (by omega)).trans hval))
            have HL := Lib.hid (fun (s : World) (hs : Shared w s w3.heap.size w4.heap.size d1 ws1 d2 ws2 m bw bb s1 n2 t2 v1 v2 W B W B) => p_load j s hs.p hs.mem s10 (by omega))
            have HA := Lib.hid (fun (s s' : World) (hs : Shared w s w3.heap.size w4.heap.size d1 ws1 d2 ws2 m bw bb s1 n2 t2 v1 v2 W B W B) (D : PDo d1 ws1 m bw bb 0 s1 (.pointer none) W B 1 j 0 0 s s') => (show Shared w s' w3.heap.size w4.heap.size d1 ws1 d2 ws2 m bw bb (s1 + 1) n2 t2 v1 v2 W B W B from by have h := hs.stepP D; rw [(load_D W B j).1, (load_D W B j).2] at h; exact h))
            rw [tD_word W B j hjl] at HL
            have q1 := HW.out _ _ S
            have i0 : (0 : Int) ≤ (j : Int) := by omega
            have i1 : (j : Int) < (W.length : Int) := by omega
            have HS := Lib.hid (S.after (Below.refl _ wr).drew)
            clear S T hval hv1
            have HE1 := Lib.hid E1
            clear E1
            generalize W.getD j 0 = x at *
            go_upto_region 32 with fail
            go_region_with ((go_at_call 30; refine (HL.out _ HS.out).mono ?_; rintro e z1 ⟨rfl, D⟩; have S2 := HA.out _ _ HS.out D; have q2 := (HO.out _ S2).cell 0 rfl; have q3 := HW.out _ _ S2))
            all_goals
              clear D q0 q1 q2 q3 HO HW HL HA HS
              go_wp2_with fail
              go_roundw
              case rel => exact ⟨j + 1, s1 + 1, by omega, by go_num, by omega, by omega, S2⟩
              case measure => simp [intOf]; omega
          · obtain rfl : j = N := by omega
            have m3 : s1 ≤ 240 := by omega
            go_wp2_with fail
            go_loopw [21] (fun i wr => ∃ (j : Nat) (s2 : Int), j ≤ K ∧ i = .int .i64 j ∧ 0 ≤ s2 ∧ s2 ≤ 200 + j ∧ Shared w wr w3.heap.size w4.heap.size d1 ws1 d2 ws2 m bw bb s1 s2 t2 v1 v2 W B W B) (fun i _ => K - (intOf i).toNat)
            case atStart => exact ⟨0, n2, by omega, rfl, n20, by omega, S⟩
            case round =>
              clear S
              obtain ⟨j, s2, hj, rfl, s20, s21, S⟩ := hrel
              by_cases hjn : j < K
              · have hjl : j < B.length := by rw [E2]; exact hjn
                obtain ⟨g, cg, hv2, _, hgl⟩ := own_open S.ref.bytes (by omega)
                have T := S.top
                rw [hv2] at T
                have q0 := T.cell 1 rfl
                have HO := Lib.hid (fun (s : World) (hs : Shared w s w3.heap.size w4.heap.size d1 ws1 d2 ws2 m bw bb s1 (s2 + 1) t2 v1 v2 W B W B) => (show At s w4.heap.size #[v1, .slice (some ⟨g, 0, none⟩) B.length cg] 62 from hv2 ▸ hs.top))
                have hval : (B.map (Value.int .u8))[j]? = some (.int .u8 (B.getD j 0)) := by simp [List.getD, hjl]
                have HW := Lib.hid (fun (s : World) (s2 : Int) (hs : Shared w s w3.heap.size w4.heap.size d1 ws1 d2 ws2 m bw bb s1 s2 t2 v1 v2 W B W B) => (show s.cell? ⟨g, j, none⟩ = some (.int .u8 (B.getD j 0)) from by have h := hs.ref.bytes; rw [hv2] at h; exact (h.cellAt j (by omega)).trans hval))
                have HL := Lib.hid (fun (s : World) (hs : Shared w s w3.heap.size w4.heap.size d1 ws1 d2 ws2 m bw bb s1 s2 t2 v1 v2 W B W B) => p_get j s hs.q hs.mem s20 (by omega))
                have HA := Lib.hid (fun (s s' : World) (hs : Shared w s w3.heap.size w4.heap.size d1 ws1 d2 ws2 m bw bb s1 s2 t2 v1 v2 W B W B) (D : PDo d2 ws2 m bw bb 1 s2 t2 W B 5 j 0 0 s s') => (show Shared w s' w3.heap.size w4.heap.size d1 ws1 d2 ws2 m bw bb s1 (s2 + 1) t2 v1 v2 W B W B from by have h := hs.stepQ D; rw [(get_D W B j).1, (get_D W B j).2] at h; exact h))
                rw [tD_byte W B j hjl S.mem.bwf] at HL
                have q1 := HW.out _ _ S
                have i0 : (0 : Int) ≤ (j : Int) := by omega
                have i1 : (j : Int) < (B.length : Int) := by omega
                have HS := Lib.hid (S.after (Below.refl _ wr).drew)
                clear S T hval hv2
                have HE2 := Lib.hid E2
                clear E2
                generalize B.getD j 0 = x at *
                go_upto_region 37 with fail
                go_region_with ((go_at_call 33; refine (HL.out _ HS.out).mono ?_; rintro e z1 ⟨rfl, D⟩; have S2 := HA.out _ _ HS.out D; have q2 := (HO.out _ S2).cell 1 rfl; have q3 := HW.out _ _ S2))
                all_goals
                  clear D q0 q1 q2 q3 HO HW HL HA HS
                  go_wp2_with fail
                  go_roundw
                  case rel => exact ⟨j + 1, s2 + 1, by omega, by go_num, by omega, by omega, S2⟩
                  case measure => simp [intOf]; omega
              · obtain rfl : j = K := by omega
                have hF := S.below
                clear S
                go_wp2_with fail
                refine (awake4_any _).mono ?_
                rintro e y7 ⟨rfl, bb7⟩
                go_wp2_with fail
                go_ret
                exact ⟨rfl, bnext hF bb7⟩
end Go.Proofs.Ytmdagppeeejikaa
