/- What 'works' of package sealerylaw07 answers. -/
import Derived.Test.YticpdpnkmeicjaaPack
namespace Go.Proofs.Yticpdpnkmeicjaa
open Go.RowKit

set_option maxHeartbeats 1000000 in
theorem works07 (w : World) : Calls Try.prog 8 #[] w fun e w' => e = .returned (.bool true) ∧ Below w.heap.size w w' := by
  obtain ⟨i0, hi, hz0, hz1, hz2⟩ := info_parts u8Info
  have hl0 : RdB (w.alloc (.cells #[.int .u8 5, .int .u8 6] 5)) (some ⟨w.heap.size, 0, none⟩) [5, 6] := rdb_new w [5, 6] _
  have hn0 : RdB (w.alloc (.cells #[.int .u8 5, .int .u8 6] 5)) none [] := RdC.nil _ _
  go_enter Try.func8, Try.ntmps8
  (repeat' ((fail_if_success at_builtin); first | go_values | go_skip | go_guarded | go_step | go_upon))
  refine (packBlob none _ 0 2 0 2 [] [5, 6] _ hn0 hl0 rfl rfl (by omega) (by omega)).mono ?_
  rintro _ w1 ⟨a1, c1, rfl, hc1, hr1, hB1, hO1⟩
  dsimp only
  (repeat' ((fail_if_success at_builtin); first | go_values | go_skip | go_guarded | go_step | go_upon))
  have hB1' : Below w.heap.size w w1 := ((Below.refl _ w).alloc (Nat.le_refl _) _).trans (hB1.mono (by simp))
  refine (copyBytes a1 10 c1 _ w1 hr1 rfl (by omega)).mono ?_
  rintro _ w2 ⟨a2, c2, rfl, hc2, hr2, hB2, hO2⟩
  dsimp only
  (repeat' ((fail_if_success at_builtin); first | go_values | go_skip | go_guarded | go_step | go_upon))
  have hB2' := hB1'.trans (hB2.mono hB1'.size)
  have hr1' : RdB w2 a1 _ := hr1.below hB2 (Nat.le_refl _)
  refine app8 rfl _ _ rfl w1.heap.size _ _ _ rfl (hO2.alloc _) _ 1 _ [9] rfl (rdb_new w2 [9] _) rfl (by decide) (by have := hB2.size; simp; omega) ?_
  intro a3 c3 w3 hc3 hr3 hO3 hg3
  have hB3 : Below w1.heap.size w1 w3 := (hB2.alloc hB2.size _).grown hg3 (by have := hB2.size; simp; omega) (fun g e => (hO2.lt g e).1)
  have hB3' := hB1'.trans (hB3.mono hB1'.size)
  have hr1'' : RdB w3 a1 _ := hr1.below hB3 (Nat.le_refl _)
  (repeat' ((fail_if_success at_builtin); first | go_values | go_skip | go_guarded | go_step | go_upon))
  refine (packRead a3 11 c3 _ w3 hr3 rfl (by decide)).mono ?_
  rintro _ w4 ⟨g, rfl, hB4, hg4, hR4⟩
  dsimp only
  (repeat' ((fail_if_success at_builtin); first | go_values | go_skip | go_guarded | go_step | go_upon))
  have hB4' := hB3'.trans (hB4.mono hB3'.size)
  have hr4 : RdB w4 a1 _ := hr1''.below hB4 (Nat.le_refl _)
  have HT := Lib.hid (show rsBlob 2 ([] ++ be8 ((2 : Nat) : Int) ++ [5, 6] ++ [9]) 0 = ([5, 6], [9], 0) by decide +kernel)
  have hb := rdBlob g 2 _ 0 w4 hR4
  rw [HT.out] at hb
  have HB := Lib.hid hb; clear hb
  refine (HB.out).mono ?_
  rintro _ w5 ⟨⟨a5, c5, rfl, hc5, hr5⟩, hg5, hR5⟩
  dsimp only
  have hB5' : Below w.heap.size w w5 := hB4'.grown hg5 hB4'.size (fun k e => by cases e; exact Nat.le_trans hB3'.size hg4)
  have hr5b : RdB w5 a1 _ := hR4.keeps hg5 hr4
  have hlit := rdb_new w5 [0, 0, 0, 0, 0, 0, 0, 2, 5, 6] 5
  (repeat' ((fail_if_success at_builtin); first | go_values | go_skip | go_guarded | go_step | go_upon))
  refine (same_yes (hr5b.alloc _) hlit rfl rfl (by decide) (by decide +kernel)).mono ?_
  rintro _ w6 ⟨rfl, hs6⟩
  dsimp only
  have hr6 : RdB w6 a5 [5, 6] := (hr5.alloc _).still hs6
  have hR6 : Rd w6 g [9] 0 := (hR5.alloc _).still hs6
  have hB6' : Below w.heap.size w w6 := (hB5'.alloc hB5'.size _).trans (hs6.below _)
  have hlit2 := rdb_new w6 [5, 6] 5
  (repeat' ((fail_if_success at_builtin); first | go_values | go_skip | go_guarded | go_step | go_upon))
  refine (same_yes (hr6.alloc _) hlit2 rfl rfl (by decide) rfl).mono ?_
  rintro _ w7 ⟨rfl, hs7⟩
  dsimp only
  have hR7 : Rd w7 g [9] 0 := (hR6.alloc _).still hs7
  have hB7' : Below w.heap.size w w7 := (hB6'.alloc hB6'.size _).trans (hs7.below _)
  (repeat' ((fail_if_success at_builtin); first | go_values | go_skip | go_guarded | go_step | go_upon))
  refine (rdLeft g _ _ w7 hR7).mono ?_
  rintro _ w8 ⟨rfl, rfl⟩
  dsimp only
  (repeat' ((fail_if_success at_builtin); first | go_values | go_skip | go_guarded | go_step | go_upon))
  refine (rdBad g _ _ w7 hR7).mono ?_
  rintro _ w8 ⟨rfl, rfl⟩
  dsimp only
  (repeat' ((fail_if_success at_builtin); first | go_values | go_skip | go_guarded | go_step | go_upon))
  refine (rdEnd g _ _ w7 hR7).mono ?_
  rintro _ w8 ⟨rfl, rfl⟩
  dsimp only
  (repeat' ((fail_if_success at_builtin); first | go_values | go_skip | go_guarded | go_step | go_upon))
  go_ret
  exact ⟨rfl, hB7'⟩

end Go.Proofs.Yticpdpnkmeicjaa
