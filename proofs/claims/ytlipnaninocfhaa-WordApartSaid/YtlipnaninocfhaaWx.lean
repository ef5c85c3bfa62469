/- The law WordApart answers true. Condition: two words of 64 bits. -/
import Derived.Test.YtlipnaninocfhaaWe
namespace Go.Proofs.Ytlipnaninocfhaa
open Go.RowKit
set_option linter.unusedVariables false

set_option maxRecDepth 100000 in
set_option maxHeartbeats 8000000 in
theorem apart_walk (x y : Int) (w : World) (x1 : 0 ≤ x) (x2 : x ≤ 18446744073709551615) (y1 : 0 ≤ y) (y2 : y ≤ 18446744073709551615) :
    Calls Try.prog 6 #[.int .u64 x, .int .u64 y] w fun e w' => e = .returned (.bool true) ∧ Below w.heap.size w w' := by
  obtain ⟨i, m, u, efx, i1, i2, u1, u2⟩ := refA_form x x1 x2
  obtain ⟨k, s, o, t, esx, k1, k2, s1, s2, o1, o2, t1, t2⟩ := staA_form x x1 x2
  obtain ⟨p, l, c, n, epx, p1, p2, l1, l2, c1, c2, n1, n2⟩ := pagA_form x x1 x2
  obtain ⟨b, h, d, z, ebx, b1, b2, d1, d2, hd, z1, z2⟩ := bitA_form x x1 x2
  have Efx := Lib.hid efx
  clear efx
  have Esx := Lib.hid esx
  clear esx
  have Epx := Lib.hid epx
  clear epx
  have Ebx := Lib.hid ebx
  clear ebx
  have HD := Lib.hid hd
  clear hd
  obtain ⟨i', m', u', efy, i1', i2', u1', u2'⟩ := refA_form y y1 y2
  obtain ⟨k', s', o', t', esy, k1', k2', s1', s2', o1', o2', t1', t2'⟩ := staA_form y y1 y2
  obtain ⟨p', l', c', n', epy, p1', p2', l1', l2', c1', c2', n1', n2'⟩ := pagA_form y y1 y2
  obtain ⟨b', h', d', z', eby, b1', b2', d1', d2', hd', z1', z2'⟩ := bitA_form y y1 y2
  have Efy := Lib.hid efy
  clear efy
  have Esy := Lib.hid esy
  clear esy
  have Epy := Lib.hid epy
  clear epy
  have Eby := Lib.hid eby
  clear eby
  have HD' := Lib.hid hd'
  clear hd'
  go_enter Try.func6, Try.ntmps6
  go_wp2_with fail
  refine (refOf x _ x1 x2).mono ?_
  rintro e w1 ⟨rfl, b1_⟩
  rw [Efx.out]
  have hB1 := b1_
  clear b1_
  have hB1a := hB1.alloc hB1.size (.cells #[.int .i64 i, .bool m, .int .u32 u] 24)
  have A1 := At.last w1 #[.int .i64 i, .bool m, .int .u32 u] 24
  go_wp2_with fail
  refine (staOf x _ x1 x2).mono ?_
  rintro e w2 ⟨rfl, b2_⟩
  rw [Esx.out]
  have hB2 := bnext hB1a b2_
  have A1 := A1.below b2_
  clear b2_
  have hB2a := hB2.alloc hB2.size (.cells #[.int .i64 k, .int .i64 s, .int .i64 o, .int .u32 t] 26)
  have A1 := A1.alloc (.cells #[.int .i64 k, .int .i64 s, .int .i64 o, .int .u32 t] 26)
  have A2 := At.last w2 #[.int .i64 k, .int .i64 s, .int .i64 o, .int .u32 t] 26
  go_wp2_with fail
  refine (pagOf x _ x1 x2).mono ?_
  rintro e w3 ⟨rfl, b3_⟩
  rw [Epx.out]
  have hB3 := bnext hB2a b3_
  have A1 := A1.below b3_
  have A2 := A2.below b3_
  clear b3_
  have hB3a := hB3.alloc hB3.size (.cells #[.int .i64 p, .int .i64 l, .int .i64 c, .int .i64 n] 28)
  have A1 := A1.alloc (.cells #[.int .i64 p, .int .i64 l, .int .i64 c, .int .i64 n] 28)
  have A2 := A2.alloc (.cells #[.int .i64 p, .int .i64 l, .int .i64 c, .int .i64 n] 28)
  have A3 := At.last w3 #[.int .i64 p, .int .i64 l, .int .i64 c, .int .i64 n] 28
  go_wp2_with fail
  refine (bitOf x _ x1 x2).mono ?_
  rintro e w4 ⟨rfl, b4_⟩
  rw [Ebx.out]
  have hB4 := bnext hB3a b4_
  have A1 := A1.below b4_
  have A2 := A2.below b4_
  have A3 := A3.below b4_
  clear b4_
  have hB4a := hB4.alloc hB4.size (.cells #[.int .u8 b, .bool h, .int .i64 d, .int .u32 z] 30)
  have A1 := A1.alloc (.cells #[.int .u8 b, .bool h, .int .i64 d, .int .u32 z] 30)
  have A2 := A2.alloc (.cells #[.int .u8 b, .bool h, .int .i64 d, .int .u32 z] 30)
  have A3 := A3.alloc (.cells #[.int .u8 b, .bool h, .int .i64 d, .int .u32 z] 30)
  have A4 := At.last w4 #[.int .u8 b, .bool h, .int .i64 d, .int .u32 z] 30
  have q10 := A1.cell 0 rfl
  have q20 := A2.cell 0 rfl
  have q21 := A2.cell 1 rfl
  have q22 := A2.cell 2 rfl
  have q30 := A3.cell 0 rfl
  have q31 := A3.cell 1 rfl
  have q32 := A3.cell 2 rfl
  have q33 := A3.cell 3 rfl
  have q42 := A4.cell 2 rfl
  go_wp2_with fail
  refine (fits_24 _ _ i1 i2).mono ?_
  rintro e wz ⟨rfl, rfl⟩
  go_wp2_with fail
  refine (fits_2 _ _ k1 k2).mono ?_
  rintro e wz ⟨rfl, rfl⟩
  go_wp2_with fail
  refine (fits_16 _ _ s1 s2).mono ?_
  rintro e wz ⟨rfl, rfl⟩
  go_wp2_with fail
  refine (fits_12 _ _ o1 o2).mono ?_
  rintro e wz ⟨rfl, rfl⟩
  go_wp2_with fail
  refine (fits_3 _ _ p1 p2).mono ?_
  rintro e wz ⟨rfl, rfl⟩
  go_wp2_with fail
  refine (fits_10 _ _ l1 l2).mono ?_
  rintro e wz ⟨rfl, rfl⟩
  go_wp2_with fail
  refine (fits_2 _ _ c1 c2).mono ?_
  rintro e wz ⟨rfl, rfl⟩
  go_wp2_with fail
  refine (fits_7 _ _ n1 n2).mono ?_
  rintro e wz ⟨rfl, rfl⟩
  go_wp2_with fail
  refine (fits_3 _ _ d1 (by omega)).mono ?_
  rintro e wz ⟨rfl, rfl⟩
  clear q10 q20 q21 q22 q30 q31 q32 q33 q42
  go_wp2_with fail
  refine (refOf y _ y1 y2).mono ?_
  rintro e w5 ⟨rfl, b5_⟩
  rw [Efy.out]
  have hB5 := bnext hB4a b5_
  have A1 := A1.below b5_
  have A2 := A2.below b5_
  have A3 := A3.below b5_
  have A4 := A4.below b5_
  clear b5_
  have hB5a := hB5.alloc hB5.size (.cells #[.int .i64 i', .bool m', .int .u32 u'] 24)
  have A1 := A1.alloc (.cells #[.int .i64 i', .bool m', .int .u32 u'] 24)
  have A2 := A2.alloc (.cells #[.int .i64 i', .bool m', .int .u32 u'] 24)
  have A3 := A3.alloc (.cells #[.int .i64 i', .bool m', .int .u32 u'] 24)
  have A4 := A4.alloc (.cells #[.int .i64 i', .bool m', .int .u32 u'] 24)
  have A5 := At.last w5 #[.int .i64 i', .bool m', .int .u32 u'] 24
  go_wp2_with fail
  refine (staOf y _ y1 y2).mono ?_
  rintro e w6 ⟨rfl, b6_⟩
  rw [Esy.out]
  have hB6 := bnext hB5a b6_
  have A1 := A1.below b6_
  have A2 := A2.below b6_
  have A3 := A3.below b6_
  have A4 := A4.below b6_
  have A5 := A5.below b6_
  clear b6_
  have hB6a := hB6.alloc hB6.size (.cells #[.int .i64 k', .int .i64 s', .int .i64 o', .int .u32 t'] 26)
  have A1 := A1.alloc (.cells #[.int .i64 k', .int .i64 s', .int .i64 o', .int .u32 t'] 26)
  have A2 := A2.alloc (.cells #[.int .i64 k', .int .i64 s', .int .i64 o', .int .u32 t'] 26)
  have A3 := A3.alloc (.cells #[.int .i64 k', .int .i64 s', .int .i64 o', .int .u32 t'] 26)
  have A4 := A4.alloc (.cells #[.int .i64 k', .int .i64 s', .int .i64 o', .int .u32 t'] 26)
  have A5 := A5.alloc (.cells #[.int .i64 k', .int .i64 s', .int .i64 o', .int .u32 t'] 26)
  have A6 := At.last w6 #[.int .i64 k', .int .i64 s', .int .i64 o', .int .u32 t'] 26
  go_wp2_with fail
  refine (pagOf y _ y1 y2).mono ?_
  rintro e w7 ⟨rfl, b7_⟩
  rw [Epy.out]
  have hB7 := bnext hB6a b7_
  have A1 := A1.below b7_
  have A2 := A2.below b7_
  have A3 := A3.below b7_
  have A4 := A4.below b7_
  have A5 := A5.below b7_
  have A6 := A6.below b7_
  clear b7_
  have hB7a := hB7.alloc hB7.size (.cells #[.int .i64 p', .int .i64 l', .int .i64 c', .int .i64 n'] 28)
  have A1 := A1.alloc (.cells #[.int .i64 p', .int .i64 l', .int .i64 c', .int .i64 n'] 28)
  have A2 := A2.alloc (.cells #[.int .i64 p', .int .i64 l', .int .i64 c', .int .i64 n'] 28)
  have A3 := A3.alloc (.cells #[.int .i64 p', .int .i64 l', .int .i64 c', .int .i64 n'] 28)
  have A4 := A4.alloc (.cells #[.int .i64 p', .int .i64 l', .int .i64 c', .int .i64 n'] 28)
  have A5 := A5.alloc (.cells #[.int .i64 p', .int .i64 l', .int .i64 c', .int .i64 n'] 28)
  have A6 := A6.alloc (.cells #[.int .i64 p', .int .i64 l', .int .i64 c', .int .i64 n'] 28)
  have A7 := At.last w7 #[.int .i64 p', .int .i64 l', .int .i64 c', .int .i64 n'] 28
  go_wp2_with fail
  refine (bitOf y _ y1 y2).mono ?_
  rintro e w8 ⟨rfl, b8_⟩
  rw [Eby.out]
  have hB8 := bnext hB7a b8_
  have A1 := A1.below b8_
  have A2 := A2.below b8_
  have A3 := A3.below b8_
  have A4 := A4.below b8_
  have A5 := A5.below b8_
  have A6 := A6.below b8_
  have A7 := A7.below b8_
  clear b8_
  have hB8a := hB8.alloc hB8.size (.cells #[.int .u8 b', .bool h', .int .i64 d', .int .u32 z'] 30)
  have A1 := A1.alloc (.cells #[.int .u8 b', .bool h', .int .i64 d', .int .u32 z'] 30)
  have A2 := A2.alloc (.cells #[.int .u8 b', .bool h', .int .i64 d', .int .u32 z'] 30)
  have A3 := A3.alloc (.cells #[.int .u8 b', .bool h', .int .i64 d', .int .u32 z'] 30)
  have A4 := A4.alloc (.cells #[.int .u8 b', .bool h', .int .i64 d', .int .u32 z'] 30)
  have A5 := A5.alloc (.cells #[.int .u8 b', .bool h', .int .i64 d', .int .u32 z'] 30)
  have A6 := A6.alloc (.cells #[.int .u8 b', .bool h', .int .i64 d', .int .u32 z'] 30)
  have A7 := A7.alloc (.cells #[.int .u8 b', .bool h', .int .i64 d', .int .u32 z'] 30)
  have A8 := At.last w8 #[.int .u8 b', .bool h', .int .i64 d', .int .u32 z'] 30
  go_wp2_with fail
  generalize hW : World.alloc w8 _ = W at *
  clear hW
  have q10 := bel_cell (A1.cell 0 rfl)
  have q11 := bel_cell (A1.cell 1 rfl)
  have q12 := bel_cell (A1.cell 2 rfl)
  have q20 := bel_cell (A2.cell 0 rfl)
  have q21 := bel_cell (A2.cell 1 rfl)
  have q22 := bel_cell (A2.cell 2 rfl)
  have q23 := bel_cell (A2.cell 3 rfl)
  have q30 := bel_cell (A3.cell 0 rfl)
  have q31 := bel_cell (A3.cell 1 rfl)
  have q32 := bel_cell (A3.cell 2 rfl)
  have q33 := bel_cell (A3.cell 3 rfl)
  have q40 := bel_cell (A4.cell 0 rfl)
  have q41 := bel_cell (A4.cell 1 rfl)
  have q42 := bel_cell (A4.cell 2 rfl)
  have q43 := bel_cell (A4.cell 3 rfl)
  have q50 := bel_cell (A5.cell 0 rfl)
  have q51 := bel_cell (A5.cell 1 rfl)
  have q52 := bel_cell (A5.cell 2 rfl)
  have q60 := bel_cell (A6.cell 0 rfl)
  have q61 := bel_cell (A6.cell 1 rfl)
  have q62 := bel_cell (A6.cell 2 rfl)
  have q63 := bel_cell (A6.cell 3 rfl)
  have q70 := bel_cell (A7.cell 0 rfl)
  have q71 := bel_cell (A7.cell 1 rfl)
  have q72 := bel_cell (A7.cell 2 rfl)
  have q73 := bel_cell (A7.cell 3 rfl)
  have q80 := bel_cell (A8.cell 0 rfl)
  have q81 := bel_cell (A8.cell 1 rfl)
  have q82 := bel_cell (A8.cell 2 rfl)
  have q83 := bel_cell (A8.cell 3 rfl)
  clear A1 A2 A3 A4 A5 A6 A7 A8
  have e1 := refEq i i' u u' m m' i1 i2 i1' i2' u1 u1'
  have e2 := staEq k k' s s' o o' t t' k1 k2 k1' k2' s1 s2 s1' s2' o1 o2 o1' o2'
  have e3 := pagEq p p' l l' c c' n n' p1 p2 p1' p2' l1 l2 l1' l2' c1 c2 c1' c2' n1 n2 n1' n2'
  have e4 := bitEq b b' d d' z z' h h' b1 b2 b1' b2' d1 d2 d1' d2' HD.out HD'.out z1 z1'
  have n1_ := eq24 i i' m m' u u'
  have n2_ := eq26 k k' s s' o o' t t'
  have n3_ := eq28 p p' l l' c c' n n'
  have n4_ := eq30 b b' h h' d d' z z'
  have g1_ := gd24 i i' m m' u u'
  have g2_ := gd26 k k' s s' o o' t t'
  have g3_ := gd28 p p' l l' c c' n n'
  have g4_ := gd30 b b' h h' d d' z z'
  refine region_below (by kernel_rfl) (by kernel_rfl) ?_
  repeat (go_big_quiet_step (first
    | (go_at_call 9; exact below_of (refWord _ _ _ _ (by omega) (by omega) (by omega) (by omega)))
    | (go_at_call 11; exact below_of (staWord _ _ _ _ _ (by omega) (by omega) (by omega) (by omega) (by omega) (by omega) (by omega) (by omega)))
    | (go_at_call 13; exact below_of (pagWord _ _ _ _ _ (by omega) (by omega) (by omega) (by omega) (by omega) (by omega) (by omega) (by omega)))
    | (go_at_call 15; exact below_of (bitWord _ _ _ _ _ (by omega) (by omega) (by omega) (by omega)))
    | (go_at_call 17; exact below_of (awake_any _))))
  refine wpQuiet_nil ?_
  intro w9 hw9
  obtain ⟨s9, rfl⟩ := hw9
  have b9 := s9.2
  generalize s9.1 = W9 at *
  go_wp2_with fail
  go_ret
  exact ⟨rfl, bnext hB8a b9⟩
end Go.Proofs.Ytlipnaninocfhaa
