/- What the reference of the audit answers: a row's bytes, its next digest. -/
import Derived.Test.YtdpfemhfmofmlaaDoorAudV
import Derived.Test.YtdpfemhfmofmlaaDoorRefSum
namespace Go.Proofs.YtdpfemhfmofmlaaDoor
set_option linter.unusedSimpArgs false
set_option linter.unusedVariables false
open Go.RowKit
set_option maxRecDepth 10000
--@PUT2

/-- The first j numbers of a row behind a digest. -/
def partN (p : List UInt8) (l : List Int) : List UInt8 := p ++ intsB l
theorem partN_snoc (p : List UInt8) (l : List Int) (v : Int) : partN p l ++ be8 v = partN p (l ++ [v]) := by simp [partN, intsB]

set_option maxHeartbeats 2000000 in
theorem refOf21 (p : List UInt8) (x : Ent) (w : World) (hp : p.length = 32) (hx : x.Fit) :
    Calls Tryd.prog 99 #[.agg (bvs p).toArray, .agg x.cells.toArray] w (GotB w (88 + x.stream.size + x.subject.size) (x.bytes p)) := by
  have hbl := x.bytes_length p
  have HBE := Lib.hid (x.bytes_eq p)
  obtain ⟨⟨I0, I1, I2, I3, I4, _, _, _⟩, h5, h6⟩ := hx
  obtain ⟨v0, v1, v2, v3, v4, t5, t6, s7⟩ := x
  obtain ⟨x, hxe⟩ : ∃ x : Ent, (⟨v0, v1, v2, v3, v4, t5, t6, s7⟩ : Ent) = x := ⟨_, rfl⟩
  dsimp only at I0 I1 I2 I3 I4 h5 h6
  rw [hp] at hbl
  rw [hxe] at hbl HBE ⊢
  have hxt : x.stream = t5 ∧ x.subject = t6 ∧ x.ints = [v0, v1, v2, v3, v4] := by rw [← hxe]; exact ⟨rfl, rfl, rfl⟩
  rw [hxt.1, hxt.2.1] at hbl HBE ⊢
  rw [hxt.2.2] at HBE
  obtain ⟨w0, hw0⟩ : ∃ w0, (w.alloc (.cells (bvs p).toArray 26)).alloc (.cells x.cells.toArray 73) = w0 := ⟨_, rfl⟩
  have hs0 : w0.heap.size = w.heap.size + 2 := by rw [← hw0]; simp
  have hB0 : Below w.heap.size w w0 := by rw [← hw0]; exact ((Below.refl _ _).alloc (Nat.le_refl _) _).alloc (by simp) _
  have hg0 : w0.heap[w.heap.size]? = some (.cells (bvs p).toArray 26 (0, 0)) := by
    rw [← hw0, Below.heap_alloc _ _ _ (by simp)]; exact heap_alloc_new w _
  have hg1 : w0.heap[w.heap.size + 1]? = some (.cells x.cells.toArray 73 (0, 0)) := by
    have h := heap_alloc_new (w.alloc (.cells (bvs p).toArray 26)) (.cells x.cells.toArray 73)
    rw [hw0, show (w.alloc (.cells (bvs p).toArray 26)).heap.size = w.heap.size + 1 by simp] at h
    exact h
  have hraP := rangeAt_whole hg0
  have hraE := rangeAt_whole hg1
  rw [← hxe] at hraE
  have HBL := Lib.hid hbl
  have HP := Lib.hid hp
  have HXE := Lib.hid hxe
  have HXT := Lib.hid hxt
  have HW0 := Lib.hid hw0
  have HRE := Lib.hid hraE
  have HRP := Lib.hid hraP
  have hu26 : Tryd.prog.underlying 26 = some _ := Tryd.underlying26
  have HIP := Lib.hid (show (Tryd.prog.info? 26).map (·.size) = some (bvs p).length by rw [bvs_length, hp]; exact sizeSum)
  clear hbl hp hxe hxt hw0 hg0 hg1 hraP hraE hs0
  go_enter Tryd.func99, Tryd.ntmps99
  (repeat' ((fail_if_success at_builtin); (fail_if_success (show wpList _ _ _ ({ dst := some 6, op := _, type := _, pos := _, after := _, guard := _ } :: _) _ _)); first | (fail) | go_values | go_skip | go_guarded | go_step | go_upon))
  rw [HW0.out]
  (repeat' ((fail_if_success at_builtin); first | ((with_reducible refine wpList_load_mid rfl 26 _ rfl w.heap.size 0 rfl (bvs p) _ HRP.out hu26 rfl HIP.out ?_)) | go_values | go_skip | go_guarded | go_step | go_upon))
  refine (ref07Sum none 0 0 [] p w0 (RdC.nil _ _) rfl (by decide) HP.out).mono ?_
  rintro _ w1 ⟨a1, c1, rfl, hc1, hr1, hB1, _⟩
  dsimp only
  rw [List.nil_append, show p = partN p [] by simp [partN, intsB]] at hr1
  have hB01 : Below w.heap.size w w1 := hB0.trans (hB1.mono hB0.size)
  have hB11 : Below w0.heap.size w0 w1 := hB1
  have HR1 := Lib.hid hr1; clear hr1 hB1
  have HL1 := Lib.hid (show (partN p []).length = 32 by simp [partN, intsB, HP.out])
  obtain ⟨q0, q1, q2, q3, q4, q5, q6⟩ := ent_cell (rangeAt_below HRE.out hB11 (Nat.le_refl _))
  dsimp only at q0 q1 q2 q3 q4 q5 q6
  (repeat' ((fail_if_success at_builtin); first | go_values | go_skip | go_guarded | go_step | go_upon))
  clear q0 q1 q2 q3 q4 q5 q6
  refine (refInt a1 _ c1 (partN p []) v0 w1 HR1.out HL1.out (by omega) I0).mono ?_
  rintro _ w2 ⟨a2, c2, rfl, hc2, hr2, hB2, _⟩
  dsimp only
  rw [partN_snoc, show [] ++ [v0] = [v0] from rfl] at hr2
  have hB02 : Below w.heap.size w w2 := hB01.trans (hB2.mono hB01.size)
  have hB12 : Below w0.heap.size w0 w2 := hB11.trans (hB2.mono hB11.size)
  have HR2 := Lib.hid hr2; clear hr2 hB2
  have HL2 := Lib.hid (show (partN p [v0]).length = 32 + 8 by simp [partN, intsB, HP.out, be8_length])
  obtain ⟨q0, q1, q2, q3, q4, q5, q6⟩ := ent_cell (rangeAt_below HRE.out hB12 (Nat.le_refl _))
  dsimp only at q0 q1 q2 q3 q4 q5 q6
  (repeat' ((fail_if_success at_builtin); first | go_values | go_skip | go_guarded | go_step | go_upon))
  clear q0 q1 q2 q3 q4 q5 q6
  refine (refInt a2 _ c2 (partN p [v0]) v1 w2 HR2.out HL2.out (by omega) I1).mono ?_
  rintro _ w3 ⟨a3, c3, rfl, hc3, hr3, hB3, _⟩
  dsimp only
  rw [partN_snoc, show [v0] ++ [v1] = [v0, v1] from rfl] at hr3
  have hB03 : Below w.heap.size w w3 := hB02.trans (hB3.mono hB02.size)
  have hB13 : Below w0.heap.size w0 w3 := hB12.trans (hB3.mono hB12.size)
  have HR3 := Lib.hid hr3; clear hr3 hB3
  have HL3 := Lib.hid (show (partN p [v0, v1]).length = 40 + 8 by simp [partN, intsB, HP.out, be8_length])
  obtain ⟨q0, q1, q2, q3, q4, q5, q6⟩ := ent_cell (rangeAt_below HRE.out hB13 (Nat.le_refl _))
  dsimp only at q0 q1 q2 q3 q4 q5 q6
  (repeat' ((fail_if_success at_builtin); first | go_values | go_skip | go_guarded | go_step | go_upon))
  clear q0 q1 q2 q3 q4 q5 q6
  refine (refInt a3 _ c3 (partN p [v0, v1]) v2 w3 HR3.out HL3.out (by omega) I2).mono ?_
  rintro _ w4 ⟨a4, c4, rfl, hc4, hr4, hB4, _⟩
  dsimp only
  rw [partN_snoc, show [v0, v1] ++ [v2] = [v0, v1, v2] from rfl] at hr4
  have hB04 : Below w.heap.size w w4 := hB03.trans (hB4.mono hB03.size)
  have hB14 : Below w0.heap.size w0 w4 := hB13.trans (hB4.mono hB13.size)
  have HR4 := Lib.hid hr4; clear hr4 hB4
  have HL4 := Lib.hid (show (partN p [v0, v1, v2]).length = 48 + 8 by simp [partN, intsB, HP.out, be8_length])
  obtain ⟨q0, q1, q2, q3, q4, q5, q6⟩ := ent_cell (rangeAt_below HRE.out hB14 (Nat.le_refl _))
  dsimp only at q0 q1 q2 q3 q4 q5 q6
  (repeat' ((fail_if_success at_builtin); first | go_values | go_skip | go_guarded | go_step | go_upon))
  clear q0 q1 q2 q3 q4 q5 q6
  refine (refInt a4 _ c4 (partN p [v0, v1, v2]) v3 w4 HR4.out HL4.out (by omega) I3).mono ?_
  rintro _ w5 ⟨a5, c5, rfl, hc5, hr5, hB5, _⟩
  dsimp only
  rw [partN_snoc, show [v0, v1, v2] ++ [v3] = [v0, v1, v2, v3] from rfl] at hr5
  have hB05 : Below w.heap.size w w5 := hB04.trans (hB5.mono hB04.size)
  have hB15 : Below w0.heap.size w0 w5 := hB14.trans (hB5.mono hB14.size)
  have HR5 := Lib.hid hr5; clear hr5 hB5
  have HL5 := Lib.hid (show (partN p [v0, v1, v2, v3]).length = 56 + 8 by simp [partN, intsB, HP.out, be8_length])
  obtain ⟨q0, q1, q2, q3, q4, q5, q6⟩ := ent_cell (rangeAt_below HRE.out hB15 (Nat.le_refl _))
  dsimp only at q0 q1 q2 q3 q4 q5 q6
  (repeat' ((fail_if_success at_builtin); first | go_values | go_skip | go_guarded | go_step | go_upon))
  clear q0 q1 q2 q3 q4 q5 q6
  refine (refInt a5 _ c5 (partN p [v0, v1, v2, v3]) v4 w5 HR5.out HL5.out (by omega) I4).mono ?_
  rintro _ w6 ⟨a6, c6, rfl, hc6, hr6, hB6, _⟩
  dsimp only
  rw [partN_snoc, show [v0, v1, v2, v3] ++ [v4] = [v0, v1, v2, v3, v4] from rfl] at hr6
  have hB06 : Below w.heap.size w w6 := hB05.trans (hB6.mono hB05.size)
  have hB16 : Below w0.heap.size w0 w6 := hB15.trans (hB6.mono hB15.size)
  have HR6 := Lib.hid hr6; clear hr6 hB6
  have HL6 := Lib.hid (show (partN p [v0, v1, v2, v3, v4]).length = 64 + 8 by simp [partN, intsB, HP.out, be8_length])
  obtain ⟨q0, q1, q2, q3, q4, q5, q6⟩ := ent_cell (rangeAt_below HRE.out hB16 (Nat.le_refl _))
  dsimp only at q0 q1 q2 q3 q4 q5 q6
  (repeat' ((fail_if_success at_builtin); first | go_values | go_skip | go_guarded | go_step | go_upon))
  clear q0 q1 q2 q3 q4 q5 q6
  refine (refText a6 _ c6 (partN p [v0, v1, v2, v3, v4]) t5 w6 HR6.out HL6.out (by omega) (by omega)).mono ?_
  rintro _ w7 ⟨a7, c7, rfl, hc7, hr7, hB7, _⟩
  dsimp only
  have hB07 : Below w.heap.size w w7 := hB06.trans (hB7.mono hB06.size)
  have hB17 : Below w0.heap.size w0 w7 := hB16.trans (hB7.mono hB16.size)
  have HR7 := Lib.hid hr7; clear hr7 hB7
  have HL7 := Lib.hid (show (partN p [v0, v1, v2, v3, v4] ++ be8 t5.size ++ t5.data.toList).length = 64 + 8 + 8 + t5.size by rw [List.length_append, List.length_append, HL6.out, be8_length, Array.length_toList]; rfl)
  obtain ⟨q0, q1, q2, q3, q4, q5, q6⟩ := ent_cell (rangeAt_below HRE.out hB17 (Nat.le_refl _))
  dsimp only at q0 q1 q2 q3 q4 q5 q6
  (repeat' ((fail_if_success at_builtin); first | go_values | go_skip | go_guarded | go_step | go_upon))
  clear q0 q1 q2 q3 q4 q5 q6
  refine (refText a7 _ c7 _ t6 w7 HR7.out HL7.out (by omega) (by omega)).mono ?_
  rintro _ w8 ⟨a8, c8, rfl, h8⟩
  dsimp only
  (repeat' ((fail_if_success at_builtin); first | go_values | go_skip | go_guarded | go_step | go_upon))
  go_ret
  have hfin : x.bytes p = partN p [v0, v1, v2, v3, v4] ++ be8 t5.size ++ t5.data.toList ++ be8 t6.size ++ t6.data.toList := by rw [HBE.out]; simp [partN, textsB]
  rw [hfin, show 88 + t5.size + t6.size = 64 + 8 + 8 + t5.size + 8 + t6.size by omega]
  exact gotB_lift h8 hB07

end Go.Proofs.YtdpfemhfmofmlaaDoor
