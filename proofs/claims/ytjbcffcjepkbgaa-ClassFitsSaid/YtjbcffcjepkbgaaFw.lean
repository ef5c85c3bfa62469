/- The law ClassFits answers true. Condition: the numbers fit an int. -/
import Derived.Test.YtjbcffcjepkbgaaFb
namespace Go.Proofs.Ytjbcffcjepkbgaa
open Go.RowKit

set_option maxRecDepth 100000 in
set_option maxHeartbeats 8000000 in
theorem fits_walk (s a : Int) (a0 : Option Addr) (len cap : Nat) (zs : List Int) (w : World) (hs1 : -9223372036854775808 ≤ s) (hs2 : s ≤ 9223372036854775807) (ha1 : -9223372036854775808 ≤ a) (ha2 : a ≤ 9223372036854775807) (hr : IsRow .i64 w a0 len cap zs) (hl63 : len ≤ 9223372036854775807) :
    Calls Try.prog 5 #[.int .i64 s, .int .i64 a, .slice a0 len cap] w fun e w' => e = .returned (.bool true) ∧ Below w.heap.size w w' := by
  by_cases hl : 12 < len
  · go_enter Try.func5, Try.ntmps5
    go_wp2_with fail
    refine (awake_any _).mono ?_
    rintro e w6 ⟨rfl, b6⟩
    go_wp2_with fail
    go_ret
    exact ⟨rfl, b6⟩
  · have Hr := Lib.hid hr
    clear hr
    go_enter Try.func5, Try.ntmps5
    go_wp2_with fail
    refine (make_row _ _ _ zs _ Hr.out (by omega)).mono ?_
    rintro e w1 ⟨v, rfl, hown, b1⟩
    clear Hr
    have hlen := List.length_filter_le good (zs.take len)
    have hlt := List.length_take_le len zs
    change (G (zs.take len)).length ≤ _ at hlen
    have hgood := fun k h => @G_good (zs.take len) k h
    have hflat := flat_get (G (zs.take len))
    unfold C at hown
    generalize G (zs.take len) = L at *
    generalize hm : L.length = m at *
    have Hm := Lib.hid hm
    clear hm
    have hm12 : m ≤ 12 := by omega
    have hsp : ∃ ao cp, v = .slice ao m cp ∧ ∀ k, k < m → ∃ g, ao = some ⟨g, 0, none⟩ ∧ g < w1.heap.size ∧ ∀ j, j < 3 → w1.cell? ⟨g, k * 3 + j, none⟩ = (cls (L.getD k 0))[j]? := by
      by_cases h0 : m = 0
      · subst h0
        obtain ⟨_, h | ⟨g, cp, _, h, _⟩⟩ := hown
        · exact ⟨none, 0, h.1, fun k hk => by omega⟩
        · exact ⟨_, cp, h, fun k hk => by omega⟩
      · obtain ⟨g, cp, hv, _, hg, _, _, hc⟩ := own_open hown (by omega)
        exact ⟨_, cp, hv, fun k hk => ⟨g, rfl, hg, fun j hj => (hc (k * 3 + j) (by omega)).trans (hflat k j hk hj)⟩⟩
    obtain ⟨ao, cp, rfl, hcells⟩ := hsp
    have Hc := Lib.hid hcells
    have Hg := Lib.hid hgood
    have hz1 := b1.size
    clear hown hflat hcells hgood hlen hlt Hm
    go_wp2_with fail
    go_loopw [8] (fun i wr => ∃ k : Nat, k ≤ m ∧ i = .int .i64 k ∧ Below w1.heap.size w1 wr) (fun i _ => m - (intOf i).toNat)
    case atStart => exact ⟨0, by omega, rfl, Below.refl _ _⟩
    case round =>
      obtain ⟨k, hk, rfl, hB⟩ := hrel
      have hz := hB.size
      by_cases hkm : k < m
      · obtain ⟨g, rfl, hg, hc⟩ := Hc.out k hkm
        have c0 := (hB.cell (p := ⟨g, k * 3 + 0, none⟩) hg).trans (hc 0 (by omega))
        have c1 := (hB.cell (p := ⟨g, k * 3 + 1, none⟩) hg).trans (hc 1 (by omega))
        have c2 := (hB.cell (p := ⟨g, k * 3 + 2, none⟩) hg).trans (hc 2 (by omega))
        have hgd := good_cases (Hg.out k hkm)
        clear hc
        generalize L.getD k 0 = n at *
        have q8 := and8
        have q16 := and16
        have q32 := and32
        have q64 := and64
        rcases hgd with rfl | rfl | rfl | rfl | rfl | rfl | rfl | rfl
        · simp [cls8] at c0 c1 c2
          go_wp2_with fail
          go_roundw
          case rel => exact ⟨k + 1, by omega, by go_num, hB.alloc hz _⟩
          case measure => simp [intOf]; omega
        · simp [cls16] at c0 c1 c2
          go_wp2_with fail
          go_roundw
          case rel => exact ⟨k + 1, by omega, by go_num, hB.alloc hz _⟩
          case measure => simp [intOf]; omega
        · simp [cls24] at c0 c1 c2
          go_wp2_with fail
          go_roundw
          case rel => exact ⟨k + 1, by omega, by go_num, hB.alloc hz _⟩
          case measure => simp [intOf]; omega
        · simp [cls32] at c0 c1 c2
          go_wp2_with fail
          go_roundw
          case rel => exact ⟨k + 1, by omega, by go_num, hB.alloc hz _⟩
          case measure => simp [intOf]; omega
        · simp [cls40] at c0 c1 c2
          go_wp2_with fail
          go_roundw
          case rel => exact ⟨k + 1, by omega, by go_num, hB.alloc hz _⟩
          case measure => simp [intOf]; omega
        · simp [cls48] at c0 c1 c2
          go_wp2_with fail
          go_roundw
          case rel => exact ⟨k + 1, by omega, by go_num, hB.alloc hz _⟩
          case measure => simp [intOf]; omega
        · simp [cls56] at c0 c1 c2
          go_wp2_with fail
          go_roundw
          case rel => exact ⟨k + 1, by omega, by go_num, hB.alloc hz _⟩
          case measure => simp [intOf]; omega
        · simp [cls64] at c0 c1 c2
          go_wp2_with fail
          go_roundw
          case rel => exact ⟨k + 1, by omega, by go_num, hB.alloc hz _⟩
          case measure => simp [intOf]; omega
      · obtain rfl : k = m := by omega
        clear Hc Hg
        have HS := Lib.hid (of_spec s a)
        have HA := Lib.hid (of_alt s a)
        obtain ⟨K1, K2⟩ := of_bounds s a
        go_wp2_with fail
        refine (of_any _ _ _ ha1 ha2).mono ?_
        rintro e w2 ⟨rfl, b2⟩
        generalize ofI s a = K at *
        go_wp2_with fail
        refine (table_lit _).mono ?_
        rintro e w3 ⟨rfl, b3⟩
        have hB3 := bnext (bnext b1 hB) (bnext b2 b3)
        have hB4 := hB3.alloc hB3.size (.cells #[.int .i64 8, .int .i64 8, .int .i64 8, .int .i64 16, .int .i64 16, .int .i64 4, .int .i64 24, .int .i64 8, .int .i64 2, .int .i64 32, .int .i64 32, .int .i64 2] 24)
        clear b1 hB b2 b3 hB3 hz hz1
        by_cases hs0 : 1 ≤ s
        · by_cases ha0 : 1 ≤ a
          · by_cases hz0 : (bits .and .i64 a (a - 1) == 0) = true
            · have hgd : (decide (1 ≤ s) && pw a) = true := by simp [pw, hs0, show 0 < a by omega]; simpa using hz0
              have Hgd := Lib.hid hgd
              clear hgd
              go_wp2_with fail
              go_loop [13] (fun i => ∃ k : Nat, k ≤ 4 ∧ i = .int .i64 k) (fun i => 4 - (intOf i).toNat)
              case atStart => exact ⟨0, by omega, rfl⟩
              case round =>
                obtain ⟨k, hk, rfl⟩ := hrel
                rcases (show k = 0 ∨ k = 1 ∨ k = 2 ∨ k = 3 ∨ k = 4 by omega) with rfl | rfl | rfl | rfl | rfl
                · by_cases t1 : s ≤ 8
                  · by_cases t2 : a ≤ 8
                    · have hE : En s a 0 = true := by simp [En, Hgd.out, en, szI, alI, t1, t2]
                      have hK := HS.out.1.1 hE
                      clear hE
                      subst hK
                      go_wp2_with fail
                      go_round
                      case rel => exact ⟨1, by omega, rfl⟩
                      case measure => simp [intOf]
                    · have hE : En s a 0 = false := by simp [En, Hgd.out, en, szI, alI, t2]
                      have hK := HS.out.1.2 hE
                      clear hE
                      by_cases t3 : 0 < K
                      · go_wp2_with fail
                        go_round
                        case rel => exact ⟨1, by omega, rfl⟩
                        case measure => simp [intOf]
                      · by_cases t4 : K < 0
                        · go_wp2_with fail
                          go_round
                          case rel => exact ⟨1, by omega, rfl⟩
                          case measure => simp [intOf]
                        · exfalso; omega
                  · have hE : En s a 0 = false := by simp [En, Hgd.out, en, szI, alI, t1]
                    have hK := HS.out.1.2 hE
                    clear hE
                    by_cases t3 : 0 < K
                    · go_wp2_with fail
                      go_round
                      case rel => exact ⟨1, by omega, rfl⟩
                      case measure => simp [intOf]
                    · by_cases t4 : K < 0
                      · go_wp2_with fail
                        go_round
                        case rel => exact ⟨1, by omega, rfl⟩
                        case measure => simp [intOf]
                      · exfalso; omega
                · by_cases t1 : s ≤ 16
                  · by_cases t2 : a ≤ 16
                    · have hE : En s a 1 = true := by simp [En, Hgd.out, en, szI, alI, t1, t2]
                      have hK := HS.out.2.1.1 hE
                      clear hE
                      by_cases t3 : K = 1
                      · subst t3
                        go_wp2_with fail
                        go_round
                        case rel => exact ⟨2, by omega, rfl⟩
                        case measure => simp [intOf]
                      · have t4 : K < 1 := by omega
                        have t5 : 0 ≤ K := by omega
                        clear hK
                        go_wp2_with fail
                        go_round
                        case rel => exact ⟨2, by omega, rfl⟩
                        case measure => simp [intOf]
                    · have hE : En s a 1 = false := by simp [En, Hgd.out, en, szI, alI, t2]
                      have hK := HS.out.2.1.2 hE
                      clear hE
                      by_cases t3 : 1 < K
                      · go_wp2_with fail
                        go_round
                        case rel => exact ⟨2, by omega, rfl⟩
                        case measure => simp [intOf]
                      · by_cases t4 : K < 0
                        · go_wp2_with fail
                          go_round
                          case rel => exact ⟨2, by omega, rfl⟩
                          case measure => simp [intOf]
                        · go_wp2_with fail
                          go_round
                          case rel => exact ⟨2, by omega, rfl⟩
                          case measure => simp [intOf]
                  · have hE : En s a 1 = false := by simp [En, Hgd.out, en, szI, alI, t1]
                    have hK := HS.out.2.1.2 hE
                    clear hE
                    by_cases t3 : 1 < K
                    · go_wp2_with fail
                      go_round
                      case rel => exact ⟨2, by omega, rfl⟩
                      case measure => simp [intOf]
                    · by_cases t4 : K < 0
                      · go_wp2_with fail
                        go_round
                        case rel => exact ⟨2, by omega, rfl⟩
                        case measure => simp [intOf]
                      · go_wp2_with fail
                        go_round
                        case rel => exact ⟨2, by omega, rfl⟩
                        case measure => simp [intOf]
                · by_cases t1 : s ≤ 24
                  · by_cases t2 : a ≤ 8
                    · have hE : En s a 2 = true := by simp [En, Hgd.out, en, szI, alI, t1, t2]
                      have hK := HS.out.2.2.1.1 hE
                      clear hE
                      by_cases t3 : K = 2
                      · subst t3
                        go_wp2_with fail
                        go_round
                        case rel => exact ⟨3, by omega, rfl⟩
                        case measure => simp [intOf]
                      · have t4 : K < 2 := by omega
                        have t5 : 0 ≤ K := by omega
                        clear hK
                        go_wp2_with fail
                        go_round
                        case rel => exact ⟨3, by omega, rfl⟩
                        case measure => simp [intOf]
                    · have hE : En s a 2 = false := by simp [En, Hgd.out, en, szI, alI, t2]
                      have hK := HS.out.2.2.1.2 hE
                      clear hE
                      by_cases t3 : 2 < K
                      · go_wp2_with fail
                        go_round
                        case rel => exact ⟨3, by omega, rfl⟩
                        case measure => simp [intOf]
                      · by_cases t4 : K < 0
                        · go_wp2_with fail
                          go_round
                          case rel => exact ⟨3, by omega, rfl⟩
                          case measure => simp [intOf]
                        · go_wp2_with fail
                          go_round
                          case rel => exact ⟨3, by omega, rfl⟩
                          case measure => simp [intOf]
                  · have hE : En s a 2 = false := by simp [En, Hgd.out, en, szI, alI, t1]
                    have hK := HS.out.2.2.1.2 hE
                    clear hE
                    by_cases t3 : 2 < K
                    · go_wp2_with fail
                      go_round
                      case rel => exact ⟨3, by omega, rfl⟩
                      case measure => simp [intOf]
                    · by_cases t4 : K < 0
                      · go_wp2_with fail
                        go_round
                        case rel => exact ⟨3, by omega, rfl⟩
                        case measure => simp [intOf]
                      · go_wp2_with fail
                        go_round
                        case rel => exact ⟨3, by omega, rfl⟩
                        case measure => simp [intOf]
                · by_cases t1 : s ≤ 32
                  · by_cases t2 : a ≤ 32
                    · have hE : En s a 3 = true := by simp [En, Hgd.out, en, szI, alI, t1, t2]
                      have hK := HS.out.2.2.2.1 hE
                      clear hE
                      by_cases t3 : K = 3
                      · subst t3
                        go_wp2_with fail
                        go_round
                        case rel => exact ⟨4, by omega, rfl⟩
                        case measure => simp [intOf]
                      · have t4 : K < 3 := by omega
                        have t5 : 0 ≤ K := by omega
                        clear hK
                        go_wp2_with fail
                        go_round
                        case rel => exact ⟨4, by omega, rfl⟩
                        case measure => simp [intOf]
                    · have hE : En s a 3 = false := by simp [En, Hgd.out, en, szI, alI, t2]
                      have hK := HS.out.2.2.2.2 hE
                      clear hE
                      by_cases t3 : 3 < K
                      · exfalso; omega
                      · by_cases t4 : K < 0
                        · go_wp2_with fail
                          go_round
                          case rel => exact ⟨4, by omega, rfl⟩
                          case measure => simp [intOf]
                        · go_wp2_with fail
                          go_round
                          case rel => exact ⟨4, by omega, rfl⟩
                          case measure => simp [intOf]
                  · have hE : En s a 3 = false := by simp [En, Hgd.out, en, szI, alI, t1]
                    have hK := HS.out.2.2.2.2 hE
                    clear hE
                    by_cases t3 : 3 < K
                    · exfalso; omega
                    · by_cases t4 : K < 0
                      · go_wp2_with fail
                        go_round
                        case rel => exact ⟨4, by omega, rfl⟩
                        case measure => simp [intOf]
                      · go_wp2_with fail
                        go_round
                        case rel => exact ⟨4, by omega, rfl⟩
                        case measure => simp [intOf]
                · go_wp2_with fail
                  refine (awake_any _).mono ?_
                  rintro e w6 ⟨rfl, b6⟩
                  go_wp2_with fail
                  go_ret
                  exact ⟨rfl, bnext hB4 b6⟩
            · have hz1 : (bits .and .i64 a (a - 1) == 0) = false := by simpa using hz0
              clear hz0
              have hgd : (decide (1 ≤ s) && pw a) = false := by simp [pw, hz1]
              have hK : K = -1 := by rw [HA.out]; simp [En, hgd]
              clear hgd HA HS
              subst hK
              go_wp2_with fail
              go_loop [13] (fun i => ∃ k : Nat, k ≤ 4 ∧ i = .int .i64 k) (fun i => 4 - (intOf i).toNat)
              case atStart => exact ⟨0, by omega, rfl⟩
              case round =>
                obtain ⟨k, hk, rfl⟩ := hrel
                rcases (show k = 0 ∨ k = 1 ∨ k = 2 ∨ k = 3 ∨ k = 4 by omega) with rfl | rfl | rfl | rfl | rfl
                · go_wp2_with fail
                  go_round
                  case rel => exact ⟨1, by omega, rfl⟩
                  case measure => simp [intOf]
                · go_wp2_with fail
                  go_round
                  case rel => exact ⟨2, by omega, rfl⟩
                  case measure => simp [intOf]
                · go_wp2_with fail
                  go_round
                  case rel => exact ⟨3, by omega, rfl⟩
                  case measure => simp [intOf]
                · go_wp2_with fail
                  go_round
                  case rel => exact ⟨4, by omega, rfl⟩
                  case measure => simp [intOf]
                · go_wp2_with fail
                  refine (awake_any _).mono ?_
                  rintro e w6 ⟨rfl, b6⟩
                  go_wp2_with fail
                  go_ret
                  exact ⟨rfl, bnext hB4 b6⟩
          · have hgd : (decide (1 ≤ s) && pw a) = false := by simp [pw]; omega
            have hK : K = -1 := by rw [HA.out]; simp [En, hgd]
            clear hgd HA HS
            subst hK
            go_wp2_with fail
            go_loop [13] (fun i => ∃ k : Nat, k ≤ 4 ∧ i = .int .i64 k) (fun i => 4 - (intOf i).toNat)
            case atStart => exact ⟨0, by omega, rfl⟩
            case round =>
              obtain ⟨k, hk, rfl⟩ := hrel
              rcases (show k = 0 ∨ k = 1 ∨ k = 2 ∨ k = 3 ∨ k = 4 by omega) with rfl | rfl | rfl | rfl | rfl
              · go_wp2_with fail
                go_round
                case rel => exact ⟨1, by omega, rfl⟩
                case measure => simp [intOf]
              · go_wp2_with fail
                go_round
                case rel => exact ⟨2, by omega, rfl⟩
                case measure => simp [intOf]
              · go_wp2_with fail
                go_round
                case rel => exact ⟨3, by omega, rfl⟩
                case measure => simp [intOf]
              · go_wp2_with fail
                go_round
                case rel => exact ⟨4, by omega, rfl⟩
                case measure => simp [intOf]
              · go_wp2_with fail
                refine (awake_any _).mono ?_
                rintro e w6 ⟨rfl, b6⟩
                go_wp2_with fail
                go_ret
                exact ⟨rfl, bnext hB4 b6⟩
        · have hgd : (decide (1 ≤ s) && pw a) = false := by simp [hs0]
          have hK : K = -1 := by rw [HA.out]; simp [En, hgd]
          clear hgd HA HS
          subst hK
          go_wp2_with fail
          go_loop [13] (fun i => ∃ k : Nat, k ≤ 4 ∧ i = .int .i64 k) (fun i => 4 - (intOf i).toNat)
          case atStart => exact ⟨0, by omega, rfl⟩
          case round =>
            obtain ⟨k, hk, rfl⟩ := hrel
            rcases (show k = 0 ∨ k = 1 ∨ k = 2 ∨ k = 3 ∨ k = 4 by omega) with rfl | rfl | rfl | rfl | rfl
            · go_wp2_with fail
              go_round
              case rel => exact ⟨1, by omega, rfl⟩
              case measure => simp [intOf]
            · go_wp2_with fail
              go_round
              case rel => exact ⟨2, by omega, rfl⟩
              case measure => simp [intOf]
            · go_wp2_with fail
              go_round
              case rel => exact ⟨3, by omega, rfl⟩
              case measure => simp [intOf]
            · go_wp2_with fail
              go_round
              case rel => exact ⟨4, by omega, rfl⟩
              case measure => simp [intOf]
            · go_wp2_with fail
              refine (awake_any _).mono ?_
              rintro e w6 ⟨rfl, b6⟩
              go_wp2_with fail
              go_ret
              exact ⟨rfl, bnext hB4 b6⟩
end Go.Proofs.Ytjbcffcjepkbgaa
