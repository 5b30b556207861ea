/- The law WirePuts, walked. -/
import Derived.Test.YthgaghpakioglaaDoorWorks27
namespace Go.Proofs.YthgaghpakioglaaDoor
set_option linter.unusedSimpArgs false
set_option linter.unusedVariables false
open Go.RowKit
set_option maxRecDepth 10000

theorem sameNil (w : World) : Calls Tryd.prog 12 #[.slice none 0 0, .slice none 0 0] w fun e w' => e = .returned (.bool true) ∧ Still w w' :=
  same_yes (l := []) (m := []) (RdC.nil _ _) (RdC.nil _ _) rfl rfl (by decide) rfl

set_option maxHeartbeats 4000000 in
theorem wirePuts_walk (a : Option Addr) (n c : Nat) (l : List UInt8) (w : World) (h : RdB w a l) (en : l.length = n) (hn : n ≤ c) (hc : c ≤ 9223372036854775807) :
    Calls Tryd.prog 3 #[.slice a n c] w fun e w' => e = .returned (.bool true) ∧ Below w.heap.size w w' := by
  subst en
  have HR := Lib.hid h; clear h
  have hlen : (l.length : Int) ≤ 9223372036854775807 := by omega
  by_cases hb : 65536 < l.length
  · have t1 : decide ((65536 : Int) < (l.length : Int)) = true := by simp; omega
    go_enter Tryd.func3, Tryd.ntmps3
    (repeat' ((fail_if_success at_builtin); first | go_values | go_skip | go_guarded | go_step | go_upon))
    refine (works27 w).mono ?_
    rintro _ w1 ⟨rfl, hB1⟩
    dsimp only
    (repeat' ((fail_if_success at_builtin); first | go_values | go_skip | go_guarded | go_step | go_upon))
    go_ret
    exact ⟨rfl, hB1⟩
  · have t1 : decide ((65536 : Int) < (l.length : Int)) = false := by simp; omega
    cases hm : mayB l.length with
    | false =>
      have HM := Lib.hid hm; clear hm
      go_enter Tryd.func3, Tryd.ntmps3
      (repeat' ((fail_if_success at_builtin); first | go_values | go_skip | go_guarded | go_step | go_upon))
      refine (lentBytes a _ c l w HR.out rfl (by omega)).mono ?_
      rintro _ w1 ⟨a1, c1, rfl, hc1, hr1, hB1, _⟩
      dsimp only
      have hc5 : (0 : Int) ≤ (l.length : Int) ∧ (l.length : Int) ≤ (c1 : Int) := by omega
      have HR1 := Lib.hid hr1; clear hr1
      (repeat' ((fail_if_success at_builtin); first | go_values | go_skip | go_guarded | go_step | go_upon))
      refine (wirePutNo a1 l.length c1 l w1 rfl (by omega) HM.out).mono ?_
      rintro _ w2 ⟨rfl, hB2⟩
      dsimp only
      have hB02 : Below w.heap.size w w2 := hB1.trans (hB2.mono hB1.size)
      (repeat' ((fail_if_success at_builtin); first | go_values | go_skip | go_guarded | go_step | go_upon))
      refine (wirePutNo a1 l.length c1 l w2 rfl (by omega) HM.out).mono ?_
      rintro _ w3 ⟨rfl, hB3⟩
      dsimp only
      have hB03 : Below w.heap.size w w3 := hB02.trans (hB3.mono hB02.size)
      (repeat' ((fail_if_success at_builtin); first | go_values | go_skip | go_guarded | go_step | go_upon))
      refine (refPutNo a l.length c w3 (by omega) HM.out).mono ?_
      rintro _ w4 ⟨rfl, rfl⟩
      dsimp only
      (repeat' ((fail_if_success at_builtin); first | go_values | go_skip | go_guarded | go_step | go_upon))
      refine (sameNil w3).mono ?_
      rintro _ w5 ⟨rfl, hs5⟩
      dsimp only
      have hB05 : Below w.heap.size w w5 := hB03.trans (hs5.below _)
      have HS5 := Lib.hid hs5; clear hs5
      (repeat' ((fail_if_success at_builtin); first | go_values | go_skip | go_guarded | go_step | go_upon))
      refine (spoilBytes w.heap.size 0 0 none [] w5 (World.ownsRow_nil _ _ _ _) (by decide)).mono ?_
      rintro _ w6 ⟨rfl, hg6⟩
      dsimp only
      have hB06 : Below w.heap.size w w6 := hB05.grown hg6 hB05.size (fun k e => by cases e)
      have h56 : Below w5.heap.size w5 w6 := (Below.refl _ _).grown hg6 (Nat.le_refl _) (fun k e => by cases e)
      (repeat' ((fail_if_success at_builtin); first | go_values | go_skip | go_guarded | go_step | go_upon))
      refine (sameNil w6).mono ?_
      rintro _ w7 ⟨rfl, hs7⟩
      dsimp only
      have hB17 : Below w1.heap.size w1 w7 := ((((hB2.trans (hB3.mono hB2.size)).trans (HS5.out.below _)).trans (h56.mono (by rw [show w5.heap.size = w3.heap.size by rw [HS5.out.heap]]; exact Nat.le_trans hB2.size hB3.size))).trans (hs7.below _))
      have hB07 : Below w.heap.size w w7 := hB1.trans (hB17.mono hB1.size)
      clear hs7
      (repeat' ((fail_if_success at_builtin); first | go_values | go_skip | go_guarded | go_step | go_upon))
      refine (keptBytes a1 a l.length c1 c l w7 (HR1.out.below hB17 (Nat.le_refl _)) (HR.out.below hB07 (Nat.le_refl _)) rfl hc1 (by omega)).mono ?_
      rintro _ w8 ⟨rfl, hB8⟩
      dsimp only
      have hB08 : Below w.heap.size w w8 := hB07.trans (hB8.mono hB07.size)
      (repeat' ((fail_if_success at_builtin); first | go_values | go_skip | go_guarded | go_step | go_upon))
      refine (works27 w8).mono ?_
      rintro _ w9 ⟨rfl, hB9⟩
      dsimp only
      (repeat' ((fail_if_success at_builtin); first | go_values | go_skip | go_guarded | go_step | go_upon))
      go_ret
      exact ⟨rfl, hB08.trans (hB9.mono hB08.size)⟩
    | true =>
      have HM := Lib.hid hm; clear hm
      obtain ⟨P, hP⟩ : ∃ P, parcel l = P := ⟨_, rfl⟩
      have hPl : P.length = 4 + l.length := by rw [← hP]; unfold parcel len4; simp; omega
      have HP := Lib.hid hP; clear hP
      have HPL := Lib.hid hPl; clear hPl
      go_enter Tryd.func3, Tryd.ntmps3
      (repeat' ((fail_if_success at_builtin); first | go_values | go_skip | go_guarded | go_step | go_upon))
      refine (lentBytes a _ c l w HR.out rfl (by omega)).mono ?_
      rintro _ w1 ⟨a1, c1, rfl, hc1, hr1, hB1, _⟩
      dsimp only
      have hc5 : (0 : Int) ≤ (l.length : Int) ∧ (l.length : Int) ≤ (c1 : Int) := by omega
      have HR1 := Lib.hid hr1; clear hr1
      (repeat' ((fail_if_success at_builtin); first | go_values | go_skip | go_guarded | go_step | go_upon))
      refine (wirePutYes a1 l.length c1 l w1 HR1.out.left rfl (by omega) HM.out).mono ?_
      rintro _ w2 ⟨a2, c2, rfl, hc2, hr2, hB2, hO2⟩
      dsimp only
      rw [HP.out] at hr2 hO2
      have hB02 : Below w.heap.size w w2 := hB1.trans (hB2.mono hB1.size)
      have HR2 := Lib.hid hr2; clear hr2
      have HO2 := Lib.hid hO2; clear hO2
      (repeat' ((fail_if_success at_builtin); first | go_values | go_skip | go_guarded | go_step | go_upon))
      refine (wirePutYes a1 l.length c1 l w2 (HR1.out.left.below hB2 (Nat.le_refl _)) rfl (by omega) HM.out).mono ?_
      rintro _ w3 ⟨a3, c3, rfl, hc3, hr3, hB3, hO3⟩
      dsimp only
      rw [HP.out] at hr3 hO3
      have hB03 : Below w.heap.size w w3 := hB02.trans (hB3.mono hB02.size)
      have HR3 := Lib.hid hr3; clear hr3
      have HO3 := Lib.hid hO3; clear hO3
      (repeat' ((fail_if_success at_builtin); first | go_values | go_skip | go_guarded | go_step | go_upon))
      refine (refPutYes a l.length c l w3 (HR.out.below hB03 (Nat.le_refl _)) rfl HM.out).mono ?_
      rintro _ w4 ⟨a4, c4, rfl, hc4, hr4, hB4, hO4⟩
      dsimp only
      rw [HP.out] at hr4 hO4
      have hB04 : Below w.heap.size w w4 := hB03.trans (hB4.mono hB03.size)
      have HR4 := Lib.hid hr4; clear hr4
      have HO4 := Lib.hid hO4; clear hO4
      (repeat' ((fail_if_success at_builtin); first | go_values | go_skip | go_guarded | go_step | go_upon))
      refine (same_yes ((HR2.out.below hB3 (Nat.le_refl _)).below hB4 (Nat.le_refl _)) HR4.out HPL.out HPL.out (by omega) rfl).mono ?_
      rintro _ w5 ⟨rfl, hs5⟩
      dsimp only
      have hB05 : Below w.heap.size w w5 := hB04.trans (hs5.below _)
      have z5 : w5.heap.size = w4.heap.size := by rw [hs5.heap]
      have hO2' := owns_still (owns_below (owns_below HO2.out hB3 (Nat.le_refl _)) hB4 (Nat.le_refl _)) hs5
      have hO3' := owns_still (owns_below HO3.out hB4 (Nat.le_refl _)) hs5
      have hO4' := owns_still HO4.out hs5
      have l2 := fun g e => (HO2.out.lt g e).2
      have l3 := fun g e => (HO3.out.lt g e).1
      have l4 := fun g e => (HO4.out.lt g e).1
      have HS5 := Lib.hid hs5; clear hs5
      have HO2' := Lib.hid hO2'; clear hO2'
      have HO3' := Lib.hid hO3'; clear hO3'
      have HO4' := Lib.hid hO4'; clear hO4'
      have HL2 := Lib.hid l2; clear l2
      have HL3 := Lib.hid l3; clear l3
      have HL4 := Lib.hid l4; clear l4
      (repeat' ((fail_if_success at_builtin); first | go_values | go_skip | go_guarded | go_step | go_upon))
      refine (spoilBytes w1.heap.size (4 + l.length) c2 a2 (bvs P) w5 HO2'.out (by omega)).mono ?_
      rintro _ w6 ⟨rfl, hg6⟩
      dsimp only
      have hO36 := HO3'.out.kept hg6 (own_ne w2.heap.size HL2.out HL3.out)
      have hO46 := HO4'.out.kept hg6 (own_ne w2.heap.size HL2.out (fun g e => Nat.le_trans hB3.size (HL4.out g e)))
      have hz1 : w1.heap.size ≤ w5.heap.size := by rw [z5]; exact Nat.le_trans hB2.size (Nat.le_trans hB3.size hB4.size)
      have h56 : Below w1.heap.size w5 w6 := (Below.refl _ _).grown hg6 hz1 (fun k e => (HO2'.out.lt k e).1)
      have hB15 : Below w1.heap.size w1 w5 := ((hB2.trans (hB3.mono hB2.size)).trans (hB4.mono (Nat.le_trans hB2.size hB3.size))).trans (HS5.out.below _)
      have hB16 : Below w1.heap.size w1 w6 := hB15.trans h56
      have hr36 := rdc_of_owns hO36
      have hr46 := rdc_of_owns hO46
      have HR36 := Lib.hid hr36; clear hr36 hO36
      have HR46 := Lib.hid hr46; clear hr46 hO46
      clear hg6 h56
      (repeat' ((fail_if_success at_builtin); first | go_values | go_skip | go_guarded | go_step | go_upon))
      refine (same_yes HR36.out HR46.out HPL.out HPL.out (by omega) rfl).mono ?_
      rintro _ w7 ⟨rfl, hs7⟩
      dsimp only
      have hB17 : Below w1.heap.size w1 w7 := hB16.trans (hs7.below _)
      have hB07 : Below w.heap.size w w7 := hB1.trans (hB17.mono hB1.size)
      clear hs7
      (repeat' ((fail_if_success at_builtin); first | go_values | go_skip | go_guarded | go_step | go_upon))
      refine (keptBytes a1 a l.length c1 c l w7 (HR1.out.below hB17 (Nat.le_refl _)) (HR.out.below hB07 (Nat.le_refl _)) rfl hc1 (by omega)).mono ?_
      rintro _ w8 ⟨rfl, hB8⟩
      dsimp only
      have hB08 : Below w.heap.size w w8 := hB07.trans (hB8.mono hB07.size)
      (repeat' ((fail_if_success at_builtin); first | go_values | go_skip | go_guarded | go_step | go_upon))
      refine (works27 w8).mono ?_
      rintro _ w9 ⟨rfl, hB9⟩
      dsimp only
      (repeat' ((fail_if_success at_builtin); first | go_values | go_skip | go_guarded | go_step | go_upon))
      go_ret
      exact ⟨rfl, hB08.trans (hB9.mono hB08.size)⟩

end Go.Proofs.YthgaghpakioglaaDoor
