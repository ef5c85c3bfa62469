/- Class.Make gives the classes of the sizes that are good, in their row. Condition: at most 1000 sizes, in memory that was there. -/
import Derived.Test.YtjbcffcjepkbgaaProg
import Derived.WalkKit
import Derived.WalkSpells
import Derived.WalkLawsBesides
import Derived.Handy
import Derived.Lib.Hide
namespace Go.Proofs.Ytjbcffcjepkbgaa
open Go.RowKit

theorem Try.info23 : (Try.prog.info? 23).map (fun i => (i.zero, i.size, i.bytes)) = some (some (.agg #[.int .i64 0, .int .i64 0, .int .i64 0]), 3, 24) := by kernel_rfl

def good (n : Int) : Bool := decide (8 ≤ n) && (decide (n ≤ 64) && (n % 8 == 0))
def cls (n : Int) : List Value := [.int .i64 n, .int .i64 (bits .and .i64 n (-n)), .int .i64 (64 / n)]
def G (zs : List Int) : List Int := zs.filter good
def C (zs : List Int) : List Value := (G zs).flatMap cls

theorem take_snoc (zs : List Int) (k : Nat) (h : k < zs.length) : zs.take (k + 1) = zs.take k ++ [zs.getD k 0] := by
  rw [List.take_succ_eq_append_getElem h, List.getD_eq_getElem?_getD, List.getElem?_eq_getElem h]; rfl
theorem G_yes (zs : List Int) (k : Nat) (h : k < zs.length) (hg : good (zs.getD k 0) = true) : G (zs.take (k + 1)) = G (zs.take k) ++ [zs.getD k 0] := by
  rw [take_snoc zs k h]; simp only [G, List.filter_append, List.filter_cons, hg, if_true, List.filter_nil]
theorem G_no (zs : List Int) (k : Nat) (h : k < zs.length) (hg : good (zs.getD k 0) = false) : G (zs.take (k + 1)) = G (zs.take k) := by
  rw [take_snoc zs k h]; simp only [G, List.filter_append, List.filter_cons, hg, List.filter_nil]; simp
theorem C_yes (zs : List Int) (k : Nat) (h : k < zs.length) (hg : good (zs.getD k 0) = true) : C (zs.take (k + 1)) = C (zs.take k) ++ cls (zs.getD k 0) := by
  simp [C, G_yes zs k h hg]
theorem C_no (zs : List Int) (k : Nat) (h : k < zs.length) (hg : good (zs.getD k 0) = false) : C (zs.take (k + 1)) = C (zs.take k) := by
  simp [C, G_no zs k h hg]
theorem G_len (zs : List Int) (k : Nat) : (G (zs.take k)).length ≤ k := by
  refine Nat.le_trans (List.length_filter_le _ _) (List.length_take_le _ _)
theorem rel_yes {zs : List Int} {k : Nat} (h : k < zs.length) {w wr w1 : World} {v v' : Value} (hg : good (zs.getD k 0) = true) (hnx : Below w.heap.size w wr) (hown : wr.ownsRow w.heap.size 23 3 v (G (zs.take k)).length (C (zs.take k)))
    (hown' : w1.ownsRow w.heap.size 23 3 v' ((G (zs.take k)).length + 1) (C (zs.take k) ++ cls (zs.getD k 0))) (hgr : (wr.alloc (.cells #[.int .i64 (zs.getD k 0), .int .i64 (bits .and .i64 (zs.getD k 0) (-(zs.getD k 0))), .int .i64 (64 / (zs.getD k 0))] 23)).grownBy w1 v.ownBlock) :
    w1.ownsRow w.heap.size 23 3 v' (G (zs.take (k + 1))).length (C (zs.take (k + 1))) ∧ Below w.heap.size w w1 := by
  rw [G_yes zs k h hg, C_yes zs k h hg]
  refine ⟨by simpa using hown', (hnx.alloc hnx.size _).grown hgr (by have := hnx.size; simp; omega) ?_⟩
  intro j hj
  rcases hown.2 with ⟨rfl, _⟩ | ⟨g, cap, cur, rfl, hg', _⟩
  · simp [Value.ownBlock] at hj
  · simp [Value.ownBlock] at hj; omega

set_option maxHeartbeats 1000000 in
theorem make_any (b off len cap : Nat) (zs : List Int) (w : World) (hlen : zs.length = len) (hl : len ≤ 1000) (hb : b < w.heap.size)
    (hc : ∀ i, i < len → w.cell? ⟨b, off + i, none⟩ = some (.int .i64 (zs.getD i 0))) :
    Calls Try.prog 9 #[.slice (some ⟨b, off, none⟩) len cap] w fun e w' => ∃ v, e = .returned v ∧ w'.ownsRow w.heap.size 23 3 v (G zs).length (C zs) ∧ Below w.heap.size w w' := by
  obtain ⟨i0, hi, hz0, hz1, hz2⟩ := info_parts Try.info23
  go_enter Try.func9, Try.ntmps9
  go_wp2_with fail
  go_loopw [3, 8] (fun v i wr => ∃ k : Nat, k ≤ len ∧ i = .int .i64 k ∧ wr.ownsRow w.heap.size 23 3 v (G (zs.take k)).length (C (zs.take k)) ∧ Below w.heap.size w wr) (fun _ i _ => len - (intOf i).toNat)
  case atStart => exact ⟨0, Nat.zero_le _, rfl, World.ownsRow_nil _ _ _ _, Below.refl _ _⟩
  case round =>
    obtain ⟨k, hk, rfl, hown, hnx⟩ := hrel
    by_cases hlt : k < len
    · have hcx : wr.cell? ⟨b, off + k, none⟩ = some (.int .i64 (zs.getD k 0)) := (hnx.cell hb).trans (hc k hlt)
      have hsz := hnx.size
      have hly := G_len zs k
      have Ry := fun w1 v' => @rel_yes zs k (by omega) w wr w1 u3 v'
      have HR := Lib.hid Ry
      have HN := Lib.hid (G_no zs k (by omega))
      have HC := Lib.hid (C_no zs k (by omega))
      clear Ry hc
      have HL := Lib.hid hlen
      clear hlen
      generalize zs.getD k 0 = n at *
      by_cases hg : good n = true
      · have hg' := hg
        simp only [good, Bool.and_eq_true, decide_eq_true_eq] at hg'
        obtain ⟨g1, g2, g3⟩ := hg'
        have Hg := Lib.hid hg
        clear hg
        go_wp2_with (at_builtin; refine wpList_append_own _ rfl (.tmp 23) (.tmp 32) 26 rfl w.heap.size 23 i0 _ 3 24 Try.underlying26 hi hz0 hz1 hz2 rfl (by decide) _ _ _ rfl (hown.alloc _) ⟨wr.heap.size, 0, none⟩ 1 1 (cls n) rfl rfl ?c1 ?c2 ?c3 ?c4 ?c5 ?_)
        case c1 =>
          intro j u hj
          match j, hj with
          | 0, hj => simp [cls] at hj; subst hj; simp [Addr.add]
          | 1, hj => simp [cls] at hj; subst hj; simp [Addr.add]
          | 2, hj => simp [cls] at hj; subst hj; simp [Addr.add]
        case c2 => intro u hu; simp [cls] at hu; rcases hu with rfl | rfl | rfl <;> rfl
        case c3 => unfold maxLen; omega
        case c4 => omega
        case c5 => simp; omega
        intro v' w1 hown' hgrow _
        obtain ⟨r1, r2⟩ := HR.out w1 v' Hg.out hnx hown hown' hgrow
        clear hown' hgrow hown hcx
        go_wp2
        go_roundw
        case rel => exact ⟨k + 1, by omega, by go_num, r1, r2⟩
        case measure => simp [intOf]; omega
      · have hgf : good n = false := by simpa using hg
        have Hgf := Lib.hid hgf
        clear hg hgf
        have r1 : wr.ownsRow w.heap.size 23 3 u3 (G (zs.take (k+1))).length (C (zs.take (k+1))) := by
          rw [HN.out Hgf.out, HC.out Hgf.out]; exact hown
        have g123 : ¬ 8 ≤ n ∨ ((8 ≤ n ∧ ¬ n ≤ 64) ∨ (8 ≤ n ∧ n ≤ 64 ∧ (n % 8 == 0) = false)) := by
          by_cases g1 : 8 ≤ n
          · by_cases g2 : n ≤ 64
            · exact .inr (.inr ⟨g1, g2, by have := Hgf.out; simpa [good, g1, g2] using this⟩)
            · exact .inr (.inl ⟨g1, g2⟩)
          · exact .inl g1
        clear hown
        rcases g123 with g1 | ⟨g1, g2⟩ | ⟨g1, g2, g3⟩
        all_goals
          go_wp2
          go_roundw
          case rel => exact ⟨k + 1, by omega, by go_num, r1, hnx⟩
          case measure => simp [intOf]; omega
    · obtain rfl : k = len := by omega
      go_wp2
      go_ret
      rw [List.take_of_length_le (by omega)] at hown
      exact ⟨_, rfl, hown, hnx⟩
#print axioms make_any
end Go.Proofs.Ytjbcffcjepkbgaa
