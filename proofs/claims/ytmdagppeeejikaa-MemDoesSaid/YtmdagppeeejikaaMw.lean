/- The law MemDoes answers true. Condition: the numbers fit their kinds. -/
import Derived.Test.YtmdagppeeejikaaMu
import Derived.Test.YtmdagppeeejikaaMv
import Derived.Outline
import Derived.Deep.RegionHeld3
namespace Go.Proofs.Ytmdagppeeejikaa
open Go.RowKit
set_option linter.unusedVariables false

theorem Ref.wr {w w' : World} {base bw bb : Nat} {v1 v2 : Value} {W B : List Int} (h : Ref w base v1 v2 W B) (hw : Wr bw bb w w') (h1 : bw < base) (h2 : bb < base) : Ref w' base v1 v2 W B := by
  have go : ∀ {e size n : Nat} {v : Value} {xs : List Value}, w.ownsRow base e size v n xs → w'.ownsRow base e size v n xs := by
    intro e size n v xs h
    obtain ⟨hl, h⟩ := h
    refine ⟨hl, ?_⟩
    rcases h with h | ⟨g, cap, cur, hv, hg, hh, r⟩
    · exact .inl h
    · exact .inr ⟨g, cap, cur, hv, hg, (hw.block g (Array.getElem?_eq_some_iff.1 hh).1 (by omega) (by omega)).trans hh, r⟩
  exact ⟨go h.words, go h.bytes⟩
/-- the memory and the reference's hold the same -/
structure Twin (w0 w : World) (p bw bb N0 R : Nat) (v1 v2 : Value) (W B : List Int) : Prop where
  hold : Hold w0 w p bw bb W B
  ref : Ref w N0 v1 v2 W B
  top : At w R #[v1, v2] 41
  lp : p < N0
  lw : bw < N0
  lb : bb < N0
  lr : N0 ≤ R
  lz : w0.heap.size ≤ N0
theorem Twin.n0 {w0 w : World} {p bw bb N0 R : Nat} {v1 v2 : Value} {W B : List Int} (h : Twin w0 w p bw bb N0 R v1 v2 W B) : N0 ≤ w.heap.size := Nat.le_trans h.lr (Nat.le_of_lt h.top.lt)

theorem own_ne {w : World} {base e size n R : Nat} {v : Value} {xs : List Value} {cs : Array Value} {t : TypeId} (h : w.ownsRow base e size v n xs) (hA : At w R cs t) (hne : e ≠ t) : ∀ k, v.ownBlock = some k → k ≠ R := by
  intro k hk
  rcases h.2 with ⟨rfl, _⟩ | ⟨g, cap, cur, rfl, hg, hh, _⟩
  · simp [Value.ownBlock] at hk
  · simp [Value.ownBlock] at hk
    subst hk
    exact At.ne (cs := cur) (t := e) hh hA hne
theorem hold_set {w0 w : World} {p bw bb R : Nat} {W B : List Int} {cs : Array Value} (h : Hold w0 w p bw bb W B) (hA : At w R cs 41) (hR : w0.heap.size ≤ R) (j : Nat) (v : Value) : Hold w0 (w.setCell ⟨R, j, none⟩ v) p bw bb W B := by
  have n1 : p ≠ R := h.mem.top.ne hA (by decide)
  have n2 : bw ≠ R := h.mem.words.ne hA (by decide)
  have n3 : bb ≠ R := h.mem.bytes.ne hA (by decide)
  refine ⟨⟨?_, ?_, ?_, h.mem.wlen, h.mem.blen, h.mem.wwf, h.mem.bwf⟩, h.below.setCell hR v, h.lp, h.lw, h.lb⟩
  · exact at_setCell h.mem.top ⟨R, j, none⟩ v n1
  · exact at_setCell h.mem.words ⟨R, j, none⟩ v n2
  · exact at_setCell h.mem.bytes ⟨R, j, none⟩ v n3
theorem Twin.below {w0 w w' : World} {p bw bb N0 R : Nat} {v1 v2 : Value} {W B : List Int} (h : Twin w0 w p bw bb N0 R v1 v2 W B) (hb : Below w.heap.size w w') : Twin w0 w' p bw bb N0 R v1 v2 W B := ⟨h.hold.after hb, h.ref.below hb, h.top.below hb, h.lp, h.lw, h.lb, h.lr, h.lz⟩
theorem twin_fin {w z : World} {p bw bb N0 R : Nat} {v1 v2 u1 u2 : Value} {W B : List Int} (H : Hold w z p bw bb W B) (hR : Ref z N0 u1 u2 W B) (hA : At z R #[v1, v2] 41) (lp : p < N0) (lw : bw < N0) (lb : bb < N0) (lr : N0 ≤ R) (lz : w.heap.size ≤ N0) :
    Twin w ((z.setCell ⟨R, 0, none⟩ u1).setCell ⟨R, 1, none⟩ u2) p bw bb N0 R u1 u2 W B := by
  have s1 := own_set2 hR.words R u1 u2 (own_ne hR.words hA (by decide))
  have s2 := own_set2 hR.bytes R u1 u2 (own_ne hR.bytes hA (by decide))
  have h1 : At (z.setCell ⟨R, 0, none⟩ u1) R #[u1, v2] 41 := heap_setCell_same z R 0 #[v1, v2] 41 u1 hA
  exact ⟨hold_set (hold_set H hA (Nat.le_trans lz lr) 0 u1) h1 (Nat.le_trans lz lr) 1 u2, ⟨s1, s2⟩, set_two hA u1 u2, lp, lw, lb, lr, lz⟩

set_option maxRecDepth 100000 in
set_option maxHeartbeats 4000000 in
theorem does_walk (q r : Int) (ao : Option Addr) (n cap : Nat) (X : Nat → Acc) (w : World) (q0 : 0 ≤ q) (q1 : q ≤ 255) (r0 : 0 ≤ r) (r1 : r ≤ 255) (RW : ARow w ao n X) :
    Calls Try.prog 6 #[.int .u8 q, .int .u8 r, .slice ao n cap] w fun e w' => e = .returned (.bool true) ∧ Below w.heap.size w w' := by
  have hlen := RW.len
  by_cases h60 : 60 < n
  · have HG := Lib.hid (fun w => great_yes ao n cap w h60)
    clear RW
    go_enter Try.func6, Try.ntmps6
    go_wp2_with fail
    refine (HG.out _).mono ?_
    rintro e w1 ⟨rfl, rfl⟩
    go_wp2_with fail
    refine (awake_any _).mono ?_
    rintro e w6 ⟨rfl, b6⟩
    go_wp2_with fail
    go_ret
    exact ⟨rfl, b6⟩
  · have HG := Lib.hid (fun w => great_no ao n cap w h60)
    obtain ⟨N, hN⟩ : ∃ N : Nat, q % 41 = N := ⟨(q % 41).toNat, by omega⟩
    obtain ⟨K, hK⟩ : ∃ K : Nat, r % 41 = K := ⟨(r % 41).toNat, by omega⟩
    have hN1 : N ≤ 40 := by omega
    have hK1 : K ≤ 40 := by omega
    have HNew := Lib.hid (hold_new (Below.refl w.heap.size w) N K (by omega) (by omega))
    have HRef := Lib.hid (fun w => ref_new N K w (by omega) (by omega))
    have HRW := Lib.hid RW
    clear RW
    go_enter Try.func6, Try.ntmps6
    go_wp2_with fail
    refine (HG.out _).mono ?_
    rintro e w1 ⟨rfl, hw1⟩
    have hw1 := hw1.symm
    subst hw1
    go_wp2_with fail
    refine HNew.out.mono ?_
    rintro e w2 ⟨p, bw, bb, rfl, H⟩
    go_wp2_with fail
    refine (HRef.out _).mono ?_
    rintro e w3 ⟨v1, v2, rfl, hR, b3⟩
    clear HNew HRef HG hN hK
    have H3 := H.after b3
    have lp := H.mem.top.lt
    have lw := H.mem.words.lt
    have lb := H.mem.bytes.lt
    have lz := H.below.size
    clear H
    have hr : (w3.alloc (.cells #[.slice none 0 0, .slice none 0 0] 41)).heap[w3.heap.size]? = some (.cells #[.slice none 0 0, .slice none 0 0] 41 (0, 0)) := heap_alloc_new _ _
    obtain ⟨a1, c1, rfl⟩ := own_shape hR.words
    obtain ⟨a2, c2, rfl⟩ := own_shape hR.bytes
    go_upto_region 6 with (refine wpList_store_row rfl 41 (.tmp 11) (.tmp 39) rfl w3.heap.size #[.slice a1 (zeros N).length c1, .slice a2 (zeros K).length c2] rfl rfl 41 _ hr (info41 _ _) rfl (one41 _ _ _ _ _ _) ?_)
    generalize hW : World.setRow _ _ _ = V
    have A4 : At V w3.heap.size #[.slice a1 (zeros N).length c1, .slice a2 (zeros K).length c2] 41 := hW ▸ setRow_heap _ _ _ _ _ _ hr
    have b4 : Below w3.heap.size w3 V := hW ▸ below_setRow ((Below.refl _ w3).alloc (Nat.le_refl _) _) (Nat.le_refl _) _
    have T : Twin w V p bw bb w2.heap.size w3.heap.size (.slice a1 (zeros N).length c1) (.slice a2 (zeros K).length c2) (zeros N) (zeros K) := ⟨H3.after b4, hR.below b4, A4, lp, lw, lb, b3.size, lz⟩
    clear hW hr A4 b4 b3 hR H3
    have HT := Lib.hid T
    have hwN := Lib.hid (fun s : World => fun (hs : V = s) => words_any s p _ (zeros N).length (zeros N).length _ (hs ▸ T.hold.mem.top))
    have hwK := Lib.hid (fun s : World => fun (hs : V = s) => bytes_any s p _ (zeros K).length (zeros K).length _ (hs ▸ T.hold.mem.top))
    rw [zeros_len] at hwN
    rw [zeros_len] at hwK
    clear T
    go_wp2_with fail
    refine (hwN.out _ rfl).mono ?_
    rintro e w1 ⟨rfl, hw1⟩
    have hw1 := hw1.symm
    subst hw1
    go_wp2_with fail
    refine (hwK.out _ rfl).mono ?_
    rintro e w1 ⟨rfl, hw1⟩
    have hw1 := hw1.symm
    subst hw1
    clear hwN hwK lp lw lb lz
    go_wp2_with fail
    go_loopw [13] (fun i wr => ∃ (k : Nat) (W B : List Int) (v1 v2 : Value), k ≤ n ∧ i = .int .i64 k ∧ Twin w wr p bw bb w2.heap.size w3.heap.size v1 v2 W B ∧ W.length = N ∧ B.length = K) (fun i _ => n - (intOf i).toNat)
    case atStart => exact ⟨0, _, _, _, _, by omega, rfl, HT.out, zeros_len N, zeros_len K⟩
    case round =>
      clear HT
      obtain ⟨k, W, B, v1, v2, hk, rfl, T, e1, e2⟩ := hrel
      have E1 := Lib.hid e1
      have E2 := Lib.hid e2
      clear e1 e2
      by_cases hkn : k < n
      · obtain ⟨b, off, rfl, hlt, hc⟩ := HRW.out.row k hkn
        have hok := HRW.out.ok k hkn
        have hcr := hc.below hlt T.hold.below
        generalize X k = x at *
        obtain ⟨xk, xt, xa, xb⟩ := x
        obtain ⟨ok0, ok1, ot0, ot1, oa0, oa1, ob0, ob1⟩ := hok
        obtain ⟨c0, c1, c2, c3⟩ := hcr
        dsimp only at c0 c1 c2 c3 ok0 ok1 ot0 ot1 oa0 oa1 ob0 ob1
        have HD := Lib.hid (do_any p bw bb W B xk xt xa xb wr T.hold.mem ok0 ok1 oa0 oa1 ob0 ob1)
        go_wp2_with fail
        refine HD.out.mono ?_
        rintro e y1 ⟨rfl, M1, hw1⟩
        have H1 := T.hold.wr M1 hw1
        have R1 := T.ref.wr hw1 T.lw T.lb
        have A1 := T.top.wr hw1 (by have := T.lw; have := T.lr; omega) (by have := T.lb; have := T.lr; omega)
        obtain ⟨d0, d1, d2, d3⟩ := hc.below hlt H1.below
        dsimp only at d0 d1 d2 d3
        clear c0 c1 c2 c3 HD
        have L1 := T.hold.mem.wlen
        have L2 := T.hold.mem.blen
        have BW := Lib.hid T.hold.mem.bwf
        obtain ⟨_, _, _, lp, lw, lb, lr, lz⟩ := T
        have hn0 : w2.heap.size ≤ y1.heap.size := by have := A1.lt; omega
        have HD := Lib.hid (fun (s : World) (hs : Ref s w2.heap.size v1 v2 W B) (hz : w2.heap.size ≤ s.heap.size) => show Calls Try.prog 22 #[.agg #[v1, v2], .agg #[.int .u8 xk, .int .i64 xt, .int .u64 xa, .int .u64 xb]] s (fun e w' => ∃ u1 u2, e = .returned (.tuple #[.agg #[u1, u2], .int .u64 (tD W B xk xt xa), .bool (okD W B xk xt)]) ∧ Ref w' w2.heap.size u1 u2 (wD W xk xt xa xb) (bD B xk xt xa) ∧ Below s.heap.size s w') from ref_do w2.heap.size v1 v2 W B s hs hz L1 L2 xk xt xa xb BW.out ok0 ok1 oa0 oa1)
        generalize tD W B xk xt xa = told at *
        generalize okD W B xk xt = okk at *
        go_upto_region 13 with fail
        have r0 := A1.cell 0 rfl
        have r1 := A1.cell 1 rfl
        have HY := Lib.hid (fun (z : World) (hb : Below y1.drew.heap.size y1.drew z) => (show At z w3.heap.size #[v1, v2] 41 from A1.below (((Below.refl _ y1).drew).trans hb)))
        have HH := Lib.hid H1
        have HR1 := Lib.hid (Ref.below R1 ((Below.refl _ y1).drew))
        have HA1 := Lib.hid A1
        clear R1 A1 H1
        go_region_with ((go_at_call 22; refine (HD.out _ HR1.out (by simpa using hn0)).mono ?_; rintro e z1 ⟨v1', v2', rfl, hR, hb⟩; obtain ⟨a3, e3, rfl⟩ := own_shape hR.words; obtain ⟨a4, e4, rfl⟩ := own_shape hR.bytes; have A2 := HY.out z1 hb; have k0 := A2.cell 0 rfl; have k1 := A2.cell 1 rfl; have f0 := frozen_of_row _ _ 0 _ _ A2; have f1 := frozen_of_row _ _ 1 _ _ A2))
        all_goals go_wp2_with fail
        all_goals
          go_roundw
          case rel => exact ⟨k + 1, _, _, _, _, by omega, by go_num, twin_fin (HH.out.after (((Below.refl _ y1).drew).trans hb)) hR A2 lp lw lb lr lz, by rw [wD_len]; exact E1.out, by rw [bD_len]; exact E2.out⟩
          case measure => simp [intOf]; omega
      · obtain rfl : k = n := by omega
        clear HRW
        have HB0 := Lib.hid (Below.refl wr.heap.size wr)
        obtain ⟨wo, hwo⟩ : ∃ wo : World, wo = wr := ⟨_, rfl⟩
        rw [← hwo] at HB0 T
        subst hwo
        have E1 := E1.out
        have E2 := E2.out
        go_wp2_with fail
        go_loopw [18] (fun i wx => ∃ j : Nat, j ≤ N ∧ i = .int .i64 j ∧ Below wo.heap.size wo wx) (fun i _ => N - (intOf i).toNat)
        case atStart => exact ⟨0, by omega, rfl, HB0.out⟩
        case round =>
          obtain ⟨j, hj, rfl, hB⟩ := hrel
          have T' := T.below hB
          by_cases hjn : j < N
          · have hjl : j < W.length := by rw [E1]; exact hjn
            obtain ⟨g, cg, rfl, _, hgl⟩ := own_open T'.ref.words (by omega)
            have q0 := bel_cell (T'.top.cell 0 rfl)
            have hcell := T'.ref.words.cellAt j (by omega)
            have hval : (W.map (Value.int .u64))[j]? = some (.int .u64 (W.getD j 0)) := by simp [List.getD, hjl]
            have q1 := bel_cell (hcell.trans hval)
            have i0 : (0 : Int) ≤ (j : Int) := by omega
            have i1 : (j : Int) < (W.length : Int) := by omega
            have Cw := fun s : Bel wr => below_of (w := wr) (s := s) (word_below p bw bb W B j s.1 (T'.hold.mem.below s.2))
            rw [at0_in _ _ hjl] at Cw
            have CW := Lib.hid Cw
            generalize W.getD j 0 = x at *
            clear hcell hval Cw T' HB0
            go_wp2_with fail
            refine region_below (by kernel_rfl) (by kernel_rfl) ?_
            repeat (go_big_quiet_step ((go_at_call 16; exact CW.out _)))
            refine wpQuiet_nil ?_
            rintro w5 ⟨s, rfl⟩
            have B5 := bnext hB s.2
            clear q0 q1 CW
            go_wp2_with fail
            go_roundw
            case rel => exact ⟨j + 1, by omega, by go_num, B5⟩
            case measure => simp [intOf]; omega
          · obtain rfl : j = N := by omega
            clear HB0
            have HB0 := Lib.hid hB
            go_wp2_with fail
            go_loopw [19] (fun i wx => ∃ j : Nat, j ≤ K ∧ i = .int .i64 j ∧ Below wo.heap.size wo wx) (fun i _ => K - (intOf i).toNat)
            case atStart => exact ⟨0, by omega, rfl, HB0.out⟩
            case round =>
              obtain ⟨j, hj, rfl, hB⟩ := hrel
              have T' := T.below hB
              by_cases hjn : j < K
              · have hjl : j < B.length := by rw [E2]; exact hjn
                obtain ⟨g, cg, rfl, _, hgl⟩ := own_open T'.ref.bytes (by omega)
                have q0 := bel_cell (T'.top.cell 1 rfl)
                have hcell := T'.ref.bytes.cellAt j (by omega)
                have hval : (B.map (Value.int .u8))[j]? = some (.int .u8 (B.getD j 0)) := by simp [List.getD, hjl]
                have q1 := bel_cell (hcell.trans hval)
                have i0 : (0 : Int) ≤ (j : Int) := by omega
                have i1 : (j : Int) < (B.length : Int) := by omega
                have Cw := fun s : Bel wr => below_of (w := wr) (s := s) (byte_below p bw bb W B j s.1 (T'.hold.mem.below s.2))
                rw [at0_in _ _ hjl] at Cw
                have CW := Lib.hid Cw
                generalize B.getD j 0 = x at *
                clear hcell hval Cw T' HB0
                go_wp2_with fail
                refine region_below (by kernel_rfl) (by kernel_rfl) ?_
                repeat (go_big_quiet_step ((go_at_call 23; exact CW.out _)))
                refine wpQuiet_nil ?_
                rintro w5 ⟨s, rfl⟩
                have B5 := bnext hB s.2
                clear q0 q1 CW
                go_wp2_with fail
                go_roundw
                case rel => exact ⟨j + 1, by omega, by go_num, B5⟩
                case measure => simp [intOf]; omega
              · obtain rfl : j = K := by omega
                have hF := bnext T.hold.below hB
                clear T T' HB0 hB
                go_wp2_with fail
                refine (awake_any _).mono ?_
                rintro e y7 ⟨rfl, bb7⟩
                go_wp2_with fail
                go_ret
                exact ⟨rfl, bnext hF bb7⟩
end Go.Proofs.Ytmdagppeeejikaa
