/- The law ShaSums, walked. -/
import Derived.Test.YtdpfemhfmofmlaaDoorRefSum
import Derived.Test.YtdpfemhfmofmlaaDoorWorks01
namespace Go.Proofs.YtdpfemhfmofmlaaDoor
set_option linter.unusedSimpArgs false
open Go.RowKit
set_option maxRecDepth 10000

theorem eqSumSame (D : List UInt8) (hD : D.length = 32) (w : World) : (binOp .eql 26 (.agg (bvs D).toArray) (.agg (bvs D).toArray)).run Tryd.prog w = .ok (.bool true) w := by
  rw [eqSum D D hD hD w]; simp

set_option maxHeartbeats 1000000 in
theorem shaSums_walk (a : Option Addr) (n c : Nat) (l : List UInt8) (w : World) (hT : Tabs w) (h : RdB w a l) (en : l.length = n) (hn : n ≤ c) (hc : c ≤ 9223372036854775807) :
    Calls Tryd.prog 3 #[.slice a n c] w fun e w' => e = .returned (.bool true) ∧ Below w.heap.size w w' := by
  subst en
  have hts := hT.size
  have HT := Lib.hid hT; clear hT
  have HR := Lib.hid h; clear h
  by_cases hb : 8192 < l.length
  · have hb1 : (8192 : Int) < (l.length : Int) := by omega
    have hlen : (l.length : Int) ≤ 9223372036854775807 := by omega
    go_enter Tryd.func3, Tryd.ntmps3
    (repeat' ((fail_if_success at_builtin); first | go_values | go_skip | go_guarded | go_step | go_upon))
    refine (works01 w HT.out).mono ?_
    rintro _ w1 ⟨rfl, hB1⟩
    dsimp only
    (repeat' ((fail_if_success at_builtin); first | go_values | go_skip | go_guarded | go_step | go_upon))
    go_ret
    exact ⟨rfl, hB1⟩
  · have hb1 : ¬ ((8192 : Int) < (l.length : Int)) := by omega
    have hlen : (l.length : Int) ≤ 8192 := by omega
    obtain ⟨D, hD⟩ : ∃ D, wdig l = D := ⟨_, rfl⟩
    have heq := fun w => eqSumSame D (by rw [← hD, wdig_length]) w
    have HD := Lib.hid hD; clear hD
    go_enter Tryd.func3, Tryd.ntmps3
    (repeat' ((fail_if_success at_builtin); first | go_values | go_skip | go_guarded | go_step | go_upon))
    refine (lentBytes a _ c l w HR.out rfl (by omega)).mono ?_
    rintro _ w1 ⟨a1, c1, rfl, hc1, hr1, hB1, _⟩
    dsimp only
    have hc5 : (0 : Int) ≤ (l.length : Int) ∧ (l.length : Int) ≤ (c1 : Int) := by omega
    have HR1 := Lib.hid hr1; clear hr1
    (repeat' ((fail_if_success at_builtin); first | go_values | go_skip | go_guarded | go_step | go_upon))
    refine (shaSum a1 l.length c1 l w1 (HT.out.below hB1 hts) HR1.out.left rfl (by omega) (by omega)).mono ?_
    rintro _ w2 ⟨rfl, hB2⟩
    dsimp only
    have hB02 : Below w.heap.size w w2 := hB1.trans (hB2.mono hB1.size)
    rw [HD.out]
    (repeat' ((fail_if_success at_builtin); first | go_values | go_skip | go_guarded | go_step | go_upon))
    refine (refSum a l.length c l w2 (HR.out.below hB02 (Nat.le_refl _)) rfl (by omega)).mono ?_
    rintro _ w3 ⟨rfl, hB3⟩
    dsimp only
    have hB03 : Below w.heap.size w w3 := hB02.trans (hB3.mono hB02.size)
    rw [HD.out]
    (repeat' ((fail_if_success at_builtin); first | go_values | go_skip | go_guarded | go_step | go_upon))
    refine (keptBytes a1 a l.length c1 c l w3 ((HR1.out.below hB2 (Nat.le_refl _)).below hB3 (Nat.le_refl _)) (HR.out.below hB03 (Nat.le_refl _)) rfl hc1 (by omega)).mono ?_
    rintro _ w4 ⟨rfl, hB4⟩
    dsimp only
    have hB04 : Below w.heap.size w w4 := hB03.trans (hB4.mono hB03.size)
    (repeat' ((fail_if_success at_builtin); first | go_values | go_skip | go_guarded | go_step | go_upon))
    refine (works01 w4 (HT.out.below hB04 hts)).mono ?_
    rintro _ w5 ⟨rfl, hB5⟩
    dsimp only
    (repeat' ((fail_if_success at_builtin); first | go_values | go_skip | go_guarded | go_step | go_upon))
    go_ret
    exact ⟨rfl, hB04.trans (hB5.mono hB04.size)⟩

end Go.Proofs.YtdpfemhfmofmlaaDoor
