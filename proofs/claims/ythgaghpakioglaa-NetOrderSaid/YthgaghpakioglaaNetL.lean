/- Connections: the chapter's connection (works). -/
import Derived.Test.YthgaghpakioglaaNetK
namespace Go.Proofs.Ythgaghpakioglaa
set_option linter.unusedSimpArgs false
set_option linter.unusedVariables false
open Go.RowKit
set_option maxRecDepth 10000
--@PUT2

/-- Bytes that were read are read behind a change of the connections. -/
theorem NetM.keeps {w w' : World} {g : Nat} {S : Nat → Prop} {ms : List Cn} (h : NetM w g S ms) {a : Option Addr} {l : List UInt8} (hr : RdB w a l) (hg : w.grownBy w' (some g)) : RdB w' a l := by
  obtain ⟨cs, h1, _, _⟩ := h
  refine RdC.grownNe hr h1.row (fun v hv => not_mem_bvs (fun c e => ?_) _) hg
  have hv2 : v ∈ cs.flatMap Conn.cells := by simpa using hv
  obtain ⟨x, _, hx⟩ := List.mem_flatMap.1 hv2
  simp [Conn.cells] at hx
  rcases hx with rfl | rfl | rfl <;> cases e
theorem rd_rowB {w : World} {g : Nat} {l : List UInt8} {t : TypeId} {fr : Nat × Nat} (h : w.heap[g]? = some (.cells (bvs l).toArray t fr)) : RdB w (some ⟨g, 0, none⟩) l :=
  ⟨fun i hi => ⟨g, 0, rfl, by rw [Nat.zero_add, cell_of_row w g i _ _ _ h]; simp⟩⟩
def NoS : Nat → Prop := fun _ => False
def cz : Cn := ⟨false, [], []⟩
def M0 : List Cn := [cz, cz, cz, cz, cz, cz, cz, cz]
def M1 (x : Cn) : List Cn := [cz, x, cz, cz, cz, cz, cz, cz]

set_option maxHeartbeats 4000000 in
theorem netWorks (w : World) : Calls Try.prog 30 #[] w fun e w' => e = .returned (.bool true) ∧ Below w.heap.size w w' := by
  have hi2 : (-9223372036854775808 : Int) ≤ 2 ∧ (2 : Int) ≤ 9223372036854775807 := by decide
  have hi9 : (-9223372036854775808 : Int) ≤ 9 ∧ (9 : Int) ≤ 9223372036854775807 := by decide
  have hi1 : (-9223372036854775808 : Int) ≤ 1 ∧ (1 : Int) ≤ 9223372036854775807 := by decide
  obtain ⟨g, hgw⟩ : ∃ g, w.heap.size = g := ⟨_, rfl⟩
  have hno : ∀ (wx : World) k, NoS k → k < wx.heap.size := fun _ k h => h.elim
  go_enter Try.func30, Try.ntmps30
  (repeat' ((fail_if_success at_builtin); first | go_values | go_skip | go_guarded | go_step | go_upon))
  refine (netNewM w NoS).mono ?_
  rintro _ w1 ⟨rfl, hN1, hB1⟩
  rw [hgw] at hN1 hB1
  rw [hgw]
  dsimp only
  have HN1 := Lib.hid (show NetM w1 g NoS M0 from hN1)
  clear hN1
  (repeat' ((fail_if_success at_builtin); first | go_values | go_skip | go_guarded | go_step | go_upon))
  refine (netOpenM g NoS 2 M0 w1 HN1.out hi2).mono ?_
  rintro _ w2 ⟨rfl, hN2, hG2⟩
  rw [show (openM M0 2).1 = 0 from rfl]
  have HN2 := Lib.hid (show NetM w2 g NoS (M1 ⟨true, [], []⟩) from hN2)
  have hB2 := hB1.grown hG2 (by have := hB1.size; omega) (fun k e => by cases e; omega)
  clear hN2 hG2
  dsimp only
  (repeat' ((fail_if_success at_builtin); first | go_values | go_skip | go_guarded | go_step | go_upon))
  refine (netOpenM g NoS 2 _ w2 HN2.out hi2).mono ?_
  rintro _ w3 ⟨rfl, hN3, hG3⟩
  rw [show (openM (M1 ⟨true, [], []⟩) 2).1 = 13 from rfl]
  have HN3 := Lib.hid (show NetM w3 g NoS (M1 ⟨true, [], []⟩) from hN3)
  have hB3 := hB2.grown hG3 (by have := hB2.size; omega) (fun k e => by cases e; omega)
  clear hN3 hG3
  dsimp only
  (repeat' ((fail_if_success at_builtin); first | go_values | go_skip | go_guarded | go_step | go_upon))
  refine (netOpenM g NoS 9 _ w3 HN3.out hi9).mono ?_
  rintro _ w4 ⟨rfl, hN4, hG4⟩
  rw [show (openM (M1 ⟨true, [], []⟩) 9).1 = 1 from rfl]
  have HN4 := Lib.hid (show NetM w4 g NoS (M1 ⟨true, [], []⟩) from hN4)
  have hB4 := hB3.grown hG4 (by have := hB3.size; omega) (fun k e => by cases e; omega)
  clear hN4 hG4
  dsimp only
  (repeat' ((fail_if_success at_builtin); first | go_values | go_skip | go_guarded | go_step | go_upon))
  obtain ⟨w5, hw5⟩ : ∃ w5, w4.alloc (.cells #[.int .u8 7] 5) = w5 := ⟨_, rfl⟩
  have hA5 : Below w4.heap.size w4 w5 := by rw [← hw5]; exact (Below.refl _ _).alloc (Nat.le_refl _) _
  have HR5 := Lib.hid (show RdB w5 (some ⟨w4.heap.size, 0, none⟩) [7] by rw [← hw5]; exact rd_rowB (heap_alloc_new w4 (.cells (bvs [7]).toArray 5)))
  have hB5 : Below g w w5 := hB4.trans (hA5.mono (by have := hB4.size; omega))
  have HN5 := Lib.hid (HN4.out.below hA5)
  rw [hw5]
  clear hw5
  refine (netSend g NoS 1 _ 1 1 [7] _ w5 HN5.out (hno w5) HR5.out rfl (by decide) hi1).mono ?_
  rintro _ w6 ⟨rfl, hN6, hG6⟩
  rw [show (sendM (M1 ⟨true, [], []⟩) 1 [7]).1 = 12 from rfl]
  have HN6 := Lib.hid (show NetM w6 g NoS (M1 ⟨true, [], []⟩) from hN6)
  have hB6 := hB5.grown hG6 (by have := hB5.size; omega) (fun k e => by cases e; omega)
  clear hA5
  clear hN6 hG6
  dsimp only
  (repeat' ((fail_if_success at_builtin); first | go_values | go_skip | go_guarded | go_step | go_upon))
  obtain ⟨w7, hw7⟩ : ∃ w7, w6.alloc (.cells #[.int .u8 1, .int .u8 2, .int .u8 3] 5) = w7 := ⟨_, rfl⟩
  have hA7 : Below w6.heap.size w6 w7 := by rw [← hw7]; exact (Below.refl _ _).alloc (Nat.le_refl _) _
  have HR7 := Lib.hid (show RdB w7 (some ⟨w6.heap.size, 0, none⟩) [1, 2, 3] by rw [← hw7]; exact rd_rowB (heap_alloc_new w6 (.cells (bvs [1, 2, 3]).toArray 5)))
  have hB7 : Below g w w7 := hB6.trans (hA7.mono (by have := hB6.size; omega))
  have HN7 := Lib.hid (HN6.out.below hA7)
  rw [hw7]
  clear hw7
  refine (netSend g NoS 2 _ 3 3 [1, 2, 3] _ w7 HN7.out (hno w7) HR7.out rfl (by decide) hi2).mono ?_
  rintro _ w8 ⟨rfl, hN8, hG8⟩
  rw [show (sendM (M1 ⟨true, [], []⟩) 2 [1, 2, 3]).1 = 0 from rfl]
  have HN8 := Lib.hid (show NetM w8 g NoS (M1 ⟨true, [1, 2, 3], []⟩) from hN8)
  have hB8 := hB7.grown hG8 (by have := hB7.size; omega) (fun k e => by cases e; omega)
  clear hA7
  clear hN8 hG8
  dsimp only
  (repeat' ((fail_if_success at_builtin); first | go_values | go_skip | go_guarded | go_step | go_upon))
  refine (netDeliver g NoS 2 2 _ w8 HN8.out hi2 hi2).mono ?_
  rintro _ w9 ⟨a9, k9, rfl, hk9, hr9, hN9, hG9⟩
  have HR9 := Lib.hid (show RdB w9 a9 [1, 2] from hr9)
  have HN9 := Lib.hid (show NetM w9 g NoS (M1 ⟨true, [3], []⟩) from hN9)
  have hB9 := hB8.grown hG9 (by have := hB8.size; omega) (fun k e => by cases e; omega)
  rw [show (deliverM (M1 ⟨true, [1, 2, 3], []⟩) 2 2).1.length = 2 from rfl]
  clear hN9 hG9 hr9 hk9
  dsimp only
  (repeat' ((fail_if_success at_builtin); first | go_values | go_skip | go_guarded | go_step | go_upon))
  refine (netWaitsM g NoS 2 _ w9 HN9.out hi2).mono ?_
  rintro _ w10 ⟨rfl, hA10⟩
  rw [show waitsM (M1 ⟨true, [3], []⟩) 2 = 1 from rfl]
  have hB10 := hB9.trans (hA10.mono (by have := hB9.size; omega))
  have HN10 := Lib.hid (HN9.out.below hA10)
  have HR10 := Lib.hid (HR9.out.below hA10 (Nat.le_refl _))
  clear hA10
  dsimp only
  (repeat' ((fail_if_success at_builtin); first | go_values | go_skip | go_guarded | go_step | go_upon))
  obtain ⟨w11, hw11⟩ : ∃ w11, w10.alloc (.cells #[.int .u8 5] 5) = w11 := ⟨_, rfl⟩
  have hA11 : Below w10.heap.size w10 w11 := by rw [← hw11]; exact (Below.refl _ _).alloc (Nat.le_refl _) _
  have HS11 := Lib.hid (show RdB w11 (some ⟨w10.heap.size, 0, none⟩) [5] by rw [← hw11]; exact rd_rowB (heap_alloc_new w10 (.cells (bvs [5]).toArray 5)))
  have hB11 : Below g w w11 := hB10.trans (hA11.mono (by have := hB10.size; omega))
  have HN11 := Lib.hid (HN10.out.below hA11)
  rw [hw11]
  clear hw11
  have HR11 := Lib.hid (HR10.out.below hA11 (Nat.le_refl _))
  refine (netReply g NoS 2 _ 1 1 [5] _ w11 HN11.out (hno w11) HS11.out rfl (by decide) hi2).mono ?_
  rintro _ w12 ⟨rfl, hN12, hG12⟩
  rw [show (replyM (M1 ⟨true, [3], []⟩) 2 [5]).1 = 0 from rfl]
  have HN12 := Lib.hid (show NetM w12 g NoS (M1 ⟨true, [3], [5]⟩) from hN12)
  have hB12 := hB11.grown hG12 (by have := hB11.size; omega) (fun k e => by cases e; omega)
  have HR12 := Lib.hid (HN11.out.keeps HR11.out hG12)
  clear hA11
  clear hN12 hG12
  dsimp only
  (repeat' ((fail_if_success at_builtin); first | go_values | go_skip | go_guarded | go_step | go_upon))
  refine (netCloseM g NoS 2 _ w12 HN12.out hi2).mono ?_
  rintro _ w13 ⟨rfl, hN13, hG13⟩
  rw [show (closeM (M1 ⟨true, [3], [5]⟩) 2).1 = 0 from rfl]
  have HN13 := Lib.hid (show NetM w13 g NoS (M1 ⟨false, [], [5]⟩) from hN13)
  have hB13 := hB12.grown hG13 (by have := hB12.size; omega) (fun k e => by cases e; omega)
  have HR13 := Lib.hid (HN12.out.keeps HR12.out hG13)
  clear hN13 hG13
  dsimp only
  (repeat' ((fail_if_success at_builtin); first | go_values | go_skip | go_guarded | go_step | go_upon))
  obtain ⟨w14, hw14⟩ : ∃ w14, w13.alloc (.cells #[.int .u8 1, .int .u8 2] 5) = w14 := ⟨_, rfl⟩
  have hA14 : Below w13.heap.size w13 w14 := by rw [← hw14]; exact (Below.refl _ _).alloc (Nat.le_refl _) _
  have HS14 := Lib.hid (show RdB w14 (some ⟨w13.heap.size, 0, none⟩) [1, 2] by rw [← hw14]; exact rd_rowB (heap_alloc_new w13 (.cells (bvs [1, 2]).toArray 5)))
  have hB14 : Below g w w14 := hB13.trans (hA14.mono (by have := hB13.size; omega))
  have HN14 := Lib.hid (HN13.out.below hA14)
  rw [hw14]
  clear hw14
  have HR14 := Lib.hid (HR13.out.below hA14 (Nat.le_refl _))
  refine (same_yes HR14.out HS14.out rfl rfl (by decide) rfl).mono ?_
  rintro _ w15 ⟨rfl, hs15⟩
  dsimp only
  have hB15 := hB14.trans (hs15.below g)
  have HN15 := Lib.hid (HN14.out.below (hs15.below _))
  clear hs15 hA14
  (repeat' ((fail_if_success at_builtin); first | go_values | go_skip | go_guarded | go_step | go_upon))
  refine (netWaitsM g NoS 2 _ w15 HN15.out hi2).mono ?_
  rintro _ w16 ⟨rfl, hA16⟩
  rw [show waitsM (M1 ⟨false, [], [5]⟩) 2 = 0 from rfl]
  have hB16 := hB15.trans (hA16.mono (by have := hB15.size; omega))
  have HN16 := Lib.hid (HN15.out.below hA16)
  clear hA16
  dsimp only
  (repeat' ((fail_if_success at_builtin); first | go_values | go_skip | go_guarded | go_step | go_upon))
  refine (netSentM g NoS 2 _ w16 HN16.out hi2).mono ?_
  rintro _ w17 ⟨a17, k17, rfl, hk17, hr17, hA17⟩
  rw [show (sentM (M1 ⟨false, [], [5]⟩) 2).length = 1 from rfl]
  have hB17 := hB16.trans (hA17.mono (by have := hB16.size; omega))
  have HN17 := Lib.hid (HN16.out.below hA17)
  have HR17 := Lib.hid (show RdB w17 a17 [5] from hr17)
  clear hA17 hr17 hk17
  dsimp only
  (repeat' ((fail_if_success at_builtin); first | go_values | go_skip | go_guarded | go_step | go_upon))
  obtain ⟨w18, hw18⟩ : ∃ w18, w17.alloc (.cells #[.int .u8 5] 5) = w18 := ⟨_, rfl⟩
  have hA18 : Below w17.heap.size w17 w18 := by rw [← hw18]; exact (Below.refl _ _).alloc (Nat.le_refl _) _
  have HS18 := Lib.hid (show RdB w18 (some ⟨w17.heap.size, 0, none⟩) [5] by rw [← hw18]; exact rd_rowB (heap_alloc_new w17 (.cells (bvs [5]).toArray 5)))
  have hB18 : Below g w w18 := hB17.trans (hA18.mono (by have := hB17.size; omega))
  have HN18 := Lib.hid (HN17.out.below hA18)
  rw [hw18]
  clear hw18
  have HR18 := Lib.hid (HR17.out.below hA18 (Nat.le_refl _))
  refine (same_yes HR18.out HS18.out rfl rfl (by decide) rfl).mono ?_
  rintro _ w19 ⟨rfl, hs19⟩
  dsimp only
  have hB19 := hB18.trans (hs19.below g)
  have HN19 := Lib.hid (HN18.out.below (hs19.below _))
  clear hs19 hA18
  (repeat' ((fail_if_success at_builtin); first | go_values | go_skip | go_guarded | go_step | go_upon))
  refine (netReply g NoS 2 Option.none 0 0 [] _ w19 HN19.out (hno w19) (RdC.nil _ _) rfl (by decide) hi2).mono ?_
  rintro _ w20 ⟨rfl, hN20, hG20⟩
  rw [show (replyM (M1 ⟨false, [], [5]⟩) 2 []).1 = 12 from rfl]
  have HN20 := Lib.hid (show NetM w20 g NoS (M1 ⟨false, [], [5]⟩) from hN20)
  have hB20 := hB19.grown hG20 (by have := hB19.size; omega) (fun k e => by cases e; omega)
  clear hN20 hG20
  dsimp only
  (repeat' ((fail_if_success at_builtin); first | go_values | go_skip | go_guarded | go_step | go_upon))
  refine (netAllNone g NoS _ w20 HN20.out (by decide)).mono ?_
  rintro _ w21 ⟨rfl, hA21⟩
  dsimp only
  have hB21 := hB20.trans (hA21.mono (by have := hB20.size; omega))
  clear hA21
  (repeat' ((fail_if_success at_builtin); first | go_values | go_skip | go_guarded | go_step | go_upon))
  go_ret
  exact ⟨rfl, by rw [hgw]; exact hB21⟩

end Go.Proofs.Ythgaghpakioglaa
