/- The chapter's first row (sealerylaw21.works). -/
import Derived.Test.YtdpfemhfmofmlaaDoorLaw21b
import Derived.Test.YtdpfemhfmofmlaaDoorKitF
namespace Go.Proofs.YtdpfemhfmofmlaaDoor
set_option linter.unusedSimpArgs false
set_option linter.unusedVariables false
open Go.RowKit
set_option maxRecDepth 10000
--@PUT2

def w0Ent : Ent := { zEnt with clock := 5, kind := 2, id := 1 }
def w1Ent : Ent := { w0Ent with no := 1 }
def zeros32 : List UInt8 := List.replicate 32 0
def w2Ent : Ent := { w1Ent with sum := wdig (w1Ent.bytes zeros32) }
theorem w2_row : rowOf [] w0Ent = w2Ent := rfl
theorem w0_fit : w0Ent.Fit := ⟨⟨by unfold I64; decide, by unfold I64; decide, by unfold I64; decide, by unfold I64; decide, by unfold I64; decide, by unfold maxLen; decide, by unfold maxLen; decide, rfl⟩, by decide, by decide⟩
theorem w1_ok : w1Ent.Ok := ⟨by unfold I64; decide, by unfold I64; decide, by unfold I64; decide, by unfold I64; decide, by unfold I64; decide, by unfold maxLen; decide, by unfold maxLen; decide, rfl⟩
theorem w2_sum : w2Ent.sum.length = 32 := wdig_length _
theorem w2_ne : decide (zeros32 = w2Ent.sum) = false := by kernel_rfl
theorem ver_nil : verify [] zeros32 = (0, 0) := by unfold verify verGo; rw [if_pos (show headOf [] = zeros32 from rfl)]
theorem ver_w2 : verify [] w2Ent.sum = (1, 24) := by
  unfold verify verGo
  rw [if_neg (show ¬ headOf [] = w2Ent.sum from fun h => by have := w2_ne; rw [decide_eq_true (show zeros32 = w2Ent.sum from h)] at this; cases this)]
  rfl

abbrev WkS (wx : World) (z2 z3 : Nat) (w' : World) : Prop := (w'.rangeAt z2 0 w2Ent.cells ∧ w'.rangeAt z3 0 w2Ent.cells ∧ w'.rangeAt z3 7 (bvs w2Ent.sum)) ∧ Below wx.heap.size wx w'
theorem wks_below {wx w1 w2 : World} {z2 z3 : Nat} (hb : Below w1.heap.size w1 w2) (h : WkS wx z2 z3 w1) : WkS wx z2 z3 w2 :=
  ⟨⟨rangeAt_below h.1.1 hb (Nat.le_refl _), rangeAt_below h.1.2.1 hb (Nat.le_refl _), rangeAt_below h.1.2.2 hb (Nat.le_refl _)⟩, h.2.trans (hb.mono h.2.size)⟩

set_option maxHeartbeats 4000000 in
theorem works21 (w : World) (hT : Tabs w) :
    Calls Tryd.prog 58 #[] w fun e w' => e = .returned (.bool true) ∧ Below w.heap.size w w' := by
  obtain ⟨iE, zE, hiE, hzE, hcE⟩ := fresh_parts zeroEnt
  have HIE := Lib.hid hiE; clear hiE
  have HZE := Lib.hid hzE; clear hzE
  have HCE := Lib.hid hcE; clear hcE
  have hts := hT.size
  have HT := Lib.hid hT; clear hT
  have hb0 : ∀ w, (Instr.build 73 #[(1, .int .i64 5), (2, .int .i64 2), (4, .int .i64 1)]).run Tryd.prog w = .ok (.agg w0Ent.cells.toArray) w := fun w => by kernel_rfl
  have hb1 : ∀ w, (Instr.build 73 #[(0, .int .i64 1), (1, .int .i64 5), (2, .int .i64 2), (4, .int .i64 1)]).run Tryd.prog w = .ok (.agg w1Ent.cells.toArray) w := fun w => by kernel_rfl
  have hl2 : w2Ent.cells.length = 39 := Ent.cells_length w2_sum
  have HI2 := Lib.hid (show (Tryd.prog.info? 73).map (·.size) = some w2Ent.cells.length by rw [hl2]; exact entSize)
  have HF2 := Lib.hid (show 0 + w2Ent.cells.length ≤ zEnt.cells.toArray.size by rw [hl2]; exact Nat.le_refl _)
  have HO2 := Lib.hid w2Ent.cells_oneCell
  have HL2 := Lib.hid hl2; clear hl2
  have hl1 : w1Ent.cells.length = 39 := Ent.cells_length w1_ok.sum
  have HI1 := Lib.hid (show (Tryd.prog.info? 73).map (·.size) = some w1Ent.cells.length by rw [hl1]; exact entSize)
  have HF1 := Lib.hid (show 0 + w1Ent.cells.length ≤ zEnt.cells.toArray.size by rw [hl1]; exact Nat.le_refl _)
  have HO1 := Lib.hid w1Ent.cells_oneCell
  have HL1 := Lib.hid hl1; clear hl1
  have hu26 : Tryd.prog.underlying 26 = some _ := Tryd.underlying26
  have hu73 : Tryd.prog.underlying 73 = some _ := Tryd.underlying73
  go_enter Tryd.func58, Tryd.ntmps58
  (repeat' ((fail_if_success at_builtin); first | go_values | go_skip | go_guarded | go_step | go_upon))
  refine (auditNew w).mono ?_
  rintro _ w1 ⟨g, rfl, hL1, hB1⟩
  dsimp only
  have hts1 := HT.out.below hB1 hts
  have HLL := Lib.hid hL1; clear hL1
  have e0 : (#[.int .i64 0, .int .i64 5, .int .i64 2, .int .i64 0, .int .i64 1, .string ⟨#[]⟩, .string ⟨#[]⟩, .int .u8 0, .int .u8 0, .int .u8 0, .int .u8 0, .int .u8 0, .int .u8 0, .int .u8 0, .int .u8 0, .int .u8 0, .int .u8 0, .int .u8 0, .int .u8 0, .int .u8 0, .int .u8 0, .int .u8 0, .int .u8 0, .int .u8 0, .int .u8 0, .int .u8 0, .int .u8 0, .int .u8 0, .int .u8 0, .int .u8 0, .int .u8 0, .int .u8 0, .int .u8 0, .int .u8 0, .int .u8 0, .int .u8 0, .int .u8 0, .int .u8 0, .int .u8 0] : Array Value) = w0Ent.cells.toArray := rfl
  have e1 : (#[.int .i64 1, .int .i64 5, .int .i64 2, .int .i64 0, .int .i64 1, .string ⟨#[]⟩, .string ⟨#[]⟩, .int .u8 0, .int .u8 0, .int .u8 0, .int .u8 0, .int .u8 0, .int .u8 0, .int .u8 0, .int .u8 0, .int .u8 0, .int .u8 0, .int .u8 0, .int .u8 0, .int .u8 0, .int .u8 0, .int .u8 0, .int .u8 0, .int .u8 0, .int .u8 0, .int .u8 0, .int .u8 0, .int .u8 0, .int .u8 0, .int .u8 0, .int .u8 0, .int .u8 0, .int .u8 0, .int .u8 0, .int .u8 0, .int .u8 0, .int .u8 0, .int .u8 0, .int .u8 0] : Array Value) = w1Ent.cells.toArray := rfl
  have ez : (#[.int .u8 0, .int .u8 0, .int .u8 0, .int .u8 0, .int .u8 0, .int .u8 0, .int .u8 0, .int .u8 0, .int .u8 0, .int .u8 0, .int .u8 0, .int .u8 0, .int .u8 0, .int .u8 0, .int .u8 0, .int .u8 0, .int .u8 0, .int .u8 0, .int .u8 0, .int .u8 0, .int .u8 0, .int .u8 0, .int .u8 0, .int .u8 0, .int .u8 0, .int .u8 0, .int .u8 0, .int .u8 0, .int .u8 0, .int .u8 0, .int .u8 0, .int .u8 0] : Array Value) = (bvs zeros32).toArray := rfl
  have E0 := Lib.hid e0
  have E1 := Lib.hid e1
  have EZ := Lib.hid ez
  clear e0 e1 ez
  (repeat' ((fail_if_success at_builtin); first | go_values | go_skip | go_guarded | go_step | go_upon))
  rw [E0.out]
  refine (auditAdd _ g 0 _ ⟨#[97, 110, 110]⟩ w0Ent w2Ent w1 HLL.out hts1 (by unfold maxLen; decide) (by omega) w0_fit w2_row).mono ?_
  rintro _ w2 ⟨rfl, hL2, hF2⟩
  dsimp only
  have hB2 : Below w.heap.size w w2 := hB1.trans (hF2.belowOf hB1.size (fun k hk => hk.1))
  have HLG := Lib.hid hL2; clear hL2 HLL
  have HLW := Lib.hid hF2.size
  clear hF2 hb0 hb1
  (repeat' ((fail_if_success at_builtin); first | (first | ((with_reducible refine wpList_alloc_fresh (w := w2) rfl 73 rfl _ iE zE HIE.out HZE.out HCE.out ?_); intro w3 hg3 hB3 hs3; have HG3 := Lib.hid hg3; clear hg3; have HS3 := Lib.hid hs3; clear hs3) | ((with_reducible refine wpList_store_blk rfl 73 _ _ rfl w2.heap.size 0 w2Ent.cells rfl rfl _ _ HG3.out HF2.out HI2.out HO2.out ?_); intro w4 hg4 hG4; rw [splice_whole _ _ (by rw [HL2.out];rfl)] at hg4; have HG4 := Lib.hid hg4; clear hg4 HG3) | ((with_reducible refine wpList_alloc_fresh (w := w4) rfl 73 rfl _ iE zE HIE.out HZE.out HCE.out ?_); rw [E1.out]; intro w5 hg5 hB5 hs5; have HG5 := Lib.hid hg5; clear hg5; have HS5 := Lib.hid hs5; clear hs5) | ((with_reducible refine wpList_store_blk rfl 73 _ _ rfl w4.heap.size 0 w1Ent.cells rfl rfl _ _ HG5.out HF1.out HI1.out HO1.out ?_); intro w6 hg6 hG6; rw [splice_whole _ _ (by rw [HL1.out];rfl)] at hg6; have HG6 := Lib.hid hg6; have HR6 := Lib.hid (rangeAt_whole hg6); clear hg6 HG5) | (with_reducible refine wpList_load_mid rfl 73 _ rfl w4.heap.size 0 rfl w1Ent.cells _ HR6.out hu73 rfl HI1.out ?_)) | go_values | go_skip | go_guarded | go_step | go_upon))
  have hs3 := HS3.out
  have hs5 := HS5.out
  have hB24 : Below w2.heap.size w2 w4 := hB3.grown hG4 (by omega) (fun k e => by cases e; exact Nat.le_refl _)
  have hB46 : Below w4.heap.size w4 w6 := hB5.grown hG6 (by omega) (fun k e => by cases e; exact Nat.le_refl _)
  have hz24 : w2.heap.size < w4.heap.size := by have := hG4.size; omega
  have hz46 : w4.heap.size < w6.heap.size := by have := hG6.size; omega
  have hB26 : Below w2.heap.size w2 w6 := hB24.trans (hB46.mono (by omega))
  have hB06 : Below w.heap.size w w6 := hB2.trans (hB26.mono hB2.size)
  have HA6 := Lib.hid ((hB46.block w2.heap.size hz24).trans HG4.out)
  have HLG6 := Lib.hid (HLG.out.below hB26)
  clear HG4 HS3 HS5 hs3 hs5 hB3 hG4 hB5 hG6 HLG
  rw [EZ.out]
  obtain ⟨D, hD⟩ : ∃ D, wdig (w1Ent.bytes zeros32) = D := ⟨_, rfl⟩
  have hDl : D.length = 32 := by rw [← hD]; exact wdig_length _
  have hw2s : w2Ent.sum = D := hD
  have hsp : splice w1Ent.cells 7 (bvs D) = w2Ent.cells := by rw [ent_set_sum w1Ent D rfl hDl, ← hw2s]; rfl
  have HD := Lib.hid hD
  have HSP := Lib.hid hsp
  have HID := Lib.hid (show (Tryd.prog.info? 26).map (·.size) = some (bvs D).length by rw [bvs_length, hDl]; exact sizeSum)
  have HFD := Lib.hid (show 7 + (bvs D).length ≤ w1Ent.cells.toArray.size by rw [List.size_toArray, HL1.out, bvs_length, hDl]; omega)
  have HDO := Lib.hid (bvs_oneCell D)
  have HW2 := Lib.hid hw2s
  have HDL := Lib.hid hDl
  clear hD hsp hw2s hDl
  refine (of21 zeros32 w1Ent w6 rfl w1_ok (by decide) (by decide)).mono ?_
  rintro _ w7 ⟨a7, c7, rfl, hc7, hr7, hB7, _⟩
  dsimp only
  have HR7 := Lib.hid hr7; clear hr7
  have hB07 : Below w.heap.size w w7 := hB06.trans (hB7.mono hB06.size)
  have HG7 := Lib.hid ((hB7.block w4.heap.size hz46).trans HG6.out)
  have HA7 := Lib.hid ((hB7.block w2.heap.size (by omega)).trans HA6.out)
  have HLG7 := Lib.hid (HLG6.out.below hB7)
  clear HG6 HA6 HLG6 HR6
  have hk88 : 88 + w1Ent.stream.size + w1Ent.subject.size = 88 := rfl
  (repeat' ((fail_if_success at_builtin); first | go_values | go_skip | go_guarded | go_step | go_upon))
  refine (shaSumOf a7 88 c7 (w1Ent.bytes zeros32) D w7 HD.out (HT.out.below hB07 hts) HR7.out rfl hc7 (by decide)).mono ?_
  rintro _ w8 ⟨rfl, hB8⟩
  dsimp only
  have hB08 : Below w.heap.size w w8 := hB07.trans (hB8.mono hB07.size)
  have HG8 := Lib.hid ((hB8.block w4.heap.size (by have := hB7.size; omega)).trans HG7.out)
  have HA8 := Lib.hid ((hB8.block w2.heap.size (by have := hB7.size; omega)).trans HA7.out)
  have HLG8 := Lib.hid (HLG7.out.below hB8)
  clear HG7 HA7 HLG7 HR7
  (repeat' ((fail_if_success at_builtin); first | (((with_reducible refine wpList_store_blk rfl 26 _ _ rfl w4.heap.size 7 (bvs D) rfl rfl _ _ HG8.out HFD.out HID.out HDO.out ?_); intro w9 hg9 hG9; rw [List.toList_toArray, HSP.out] at hg9; have HG9 := Lib.hid hg9; clear hg9)) | go_values | go_skip | go_guarded | go_step | go_upon))
  have hz48 : w4.heap.size < w8.heap.size := by have := hB7.size; have := hB8.size; omega
  have hB09 : Below w.heap.size w w9 := hB08.grown hG9 hB08.size (fun k e => by cases e; have := hB2.size; omega)
  have HA9 := Lib.hid ((hG9.block w2.heap.size (by omega) (by simp; omega)).trans HA8.out)
  have hF9 : Frm w8.heap.size (fun k => k = w4.heap.size) w8 w9 := (Frm.refl _ _ _).grown hG9 (Nat.le_refl _) (fun k e _ => by cases e; rfl)
  have HLG9 := Lib.hid (HLG8.out.frm hF9 (by
    rintro k (hk | hk) e
    · have h12 := hB1.size; have := hk.2; have := hk.1; have := HLW.out; omega
    · have := hk.2; omega))
  clear HG8 HA8 HLG8 hF9
  rw [EZ.out]
  refine (auditVerify none 0 0 [] zeros32 0 0 w9 ver_nil (HT.out.below hB09 hts) (RdC.nil _ _) (fun x hx => by cases hx) rfl (Nat.le_refl _) (by decide) rfl).mono ?_
  rintro _ wA ⟨rfl, hBA⟩
  dsimp only
  have hB0A : Below w.heap.size w wA := hB09.trans (hBA.mono hB09.size)
  have hz89 := hG9.size
  have HGA := Lib.hid ((hBA.block w4.heap.size (by omega)).trans HG9.out)
  have HAA := Lib.hid ((hBA.block w2.heap.size (by omega)).trans HA9.out)
  have HLGA := Lib.hid (HLG9.out.below hBA)
  have hrA := rangeAt_whole HGA.out
  have hrs := ent_sum hrA
  rw [Nat.zero_add, HW2.out] at hrs
  have HRS := Lib.hid hrs
  clear HG9 HA9 HLG9 hrA hrs
  (repeat' ((fail_if_success at_builtin); first | ((with_reducible refine wpList_load_mid rfl 26 _ rfl w4.heap.size 7 rfl (bvs D) _ HRS.out hu26 rfl HID.out ?_)) | go_values | go_skip | go_guarded | go_step | go_upon))
  refine (auditVerify none 0 0 [] D 1 24 wA (by rw [← HW2.out]; exact ver_w2) (HT.out.below hB0A hts) (RdC.nil _ _) (fun x hx => by cases hx) rfl (Nat.le_refl _) (by decide) HDL.out).mono ?_
  rintro _ wB ⟨rfl, hBB⟩
  dsimp only
  rw [show ((1 : Nat) : Int) = 1 from rfl]
  have hB0B : Below w.heap.size w wB := hB0A.trans (hBB.mono hB0A.size)
  have HGB := Lib.hid ((hBB.block w4.heap.size (by have := hBA.size; omega)).trans HGA.out)
  have HAB := Lib.hid ((hBB.block w2.heap.size (by have := hBA.size; omega)).trans HAA.out)
  have HLGB := Lib.hid (HLGA.out.below hBB)
  clear HGA HAA HLGA HRS
  have hS0 : WkS wB w2.heap.size w4.heap.size wB.drew := wks_below (w1 := wB) (Below.refl _ _).drew ⟨⟨rangeAt_whole HAB.out, rangeAt_whole HGB.out, by have := ent_sum (rangeAt_whole HGB.out); rwa [Nat.zero_add] at this⟩, Below.refl _ _⟩
  have heqE := fun w => eqEnt w w2Ent w2Ent w2_sum w2_sum
  rw [decide_eq_true (rfl : w2Ent = w2Ent)] at heqE
  have heqD := fun w => eqSumSame w2Ent.sum w2_sum w
  have heqZ : ∀ w, (binOp .eql 26 (.agg (bvs zeros32).toArray) (.agg #[.int .u8 0, .int .u8 0, .int .u8 0, .int .u8 0, .int .u8 0, .int .u8 0, .int .u8 0, .int .u8 0, .int .u8 0, .int .u8 0, .int .u8 0, .int .u8 0, .int .u8 0, .int .u8 0, .int .u8 0, .int .u8 0, .int .u8 0, .int .u8 0, .int .u8 0, .int .u8 0, .int .u8 0, .int .u8 0, .int .u8 0, .int .u8 0, .int .u8 0, .int .u8 0, .int .u8 0, .int .u8 0, .int .u8 0, .int .u8 0, .int .u8 0, .int .u8 0])).run Tryd.prog w = .ok (.bool true) w := fun w => eqSumSame zeros32 rfl w
  have hi2 := HI2.out
  have hiD : (Tryd.prog.info? 26).map (·.size) = some (bvs w2Ent.sum).length := by rw [bvs_length, w2_sum]; exact sizeSum
  clear EZ
  have hcn1 : (((lput (fun _ => []) ⟨#[97, 110, 110]⟩ ([] ++ [w2Ent])) ⟨#[97, 110, 110]⟩).length : Int) = 1 := by rw [lput_same]; rfl
  have hne : (⟨#[98, 111, 98]⟩ : ByteArray) ≠ ⟨#[97, 110, 110]⟩ := by decide
  have hcn2 : (((lput (fun _ => []) ⟨#[97, 110, 110]⟩ ([] ++ [w2Ent])) ⟨#[98, 111, 98]⟩).length : Int) = 0 := by rw [lput_other _ _ _ _ hne]; rfl
  have hbob : headOf ((lput (fun _ => []) ⟨#[97, 110, 110]⟩ ([] ++ [w2Ent])) ⟨#[98, 111, 98]⟩) = zeros32 := by rw [lput_other _ _ _ _ hne]; rfl
  clear hne
  (repeat' ((fail_if_success at_builtin); first | go_values | go_skip | go_guarded | go_step | go_upon))
  refine wp_region_noPanic ?_
  refine wp_region_held_drew (S := WkS wB w2.heap.size w4.heap.size) (by kernel_rfl) ?_ (fun hHeld => ?_)
  · (exact hS0)
  refine' wpAnyH_take (i := 0) (oi := _) (v := _) rfl (by kernel_rfl) (by kernel_rfl) (by kernel_rfl) (fun _ _ _ h => h) (yieldsIf_load_mid (by rfl) _ _ rfl _ _ rfl _ _ ?ls1 ?lu1 ?ld1 ?li1) (by assumption) ?lr1
  case ls1 => (intro w hSw; (try dsimp only at hSw); go_split_ands; assumption)
  case lu1 => assumption
  case ld1 => rfl
  case li1 => first | assumption | (simp only [*]; done)
  try simp only [Act.put, List.getElem_toArray, List.getElem_cons_zero, List.getElem_cons_succ, List.setIfInBounds_toArray, List.set_cons_zero, List.set_cons_succ]
  refine' wpAnyH_take (i := 1) (oi := _) (v := _) rfl (by kernel_rfl) (by kernel_rfl) (by kernel_rfl) (fun _ _ _ h => h) (yieldsIf_load_mid (by rfl) _ _ rfl _ _ rfl _ _ ?ls2 ?lu2 ?ld2 ?li2) (by assumption) ?lr2
  case ls2 => (intro w hSw; (try dsimp only at hSw); go_split_ands; assumption)
  case lu2 => assumption
  case ld2 => rfl
  case li2 => first | assumption | (simp only [*]; done)
  try simp only [Act.put, List.getElem_toArray, List.getElem_cons_zero, List.getElem_cons_succ, List.setIfInBounds_toArray, List.set_cons_zero, List.set_cons_succ]
  refine wpAnyH_take (i := 2) (oi := _) (v := ?_) rfl (by kernel_rfl) (by kernel_rfl) (by kernel_rfl) (fun _ _ _ h => h) (Or.inl ⟨by rfl, ?_⟩) (by assumption) ?_
  rotate_left 1
  · (intro w hSw; (try dsimp only at hSw); go_simp; all_goals (with_reducible rfl))
  try simp only [Act.put, List.getElem_toArray, List.getElem_cons_zero, List.getElem_cons_succ, List.setIfInBounds_toArray, List.set_cons_zero, List.set_cons_succ]
  refine wpAnyH_take (i := 3) (oi := _) (v := ?_) rfl (by kernel_rfl) (by kernel_rfl) (by kernel_rfl) (fun _ _ _ h => h) (Or.inl ⟨by rfl, ?_⟩) (by assumption) ?_
  rotate_left 1
  · (intro w hSw; (try dsimp only at hSw); go_simp; all_goals (with_reducible rfl))
  try simp only [Act.put, List.getElem_toArray, List.getElem_cons_zero, List.getElem_cons_succ, List.setIfInBounds_toArray, List.set_cons_zero, List.set_cons_succ]
  refine wpAnyH_take (i := 4) (oi := _) (v := ?_) rfl (by kernel_rfl) (by kernel_rfl) (by kernel_rfl) (fun _ _ _ h => h) (Or.inl ⟨by rfl, ?_⟩) (by assumption) ?_
  rotate_left 1
  · (intro w hSw; (try dsimp only at hSw); go_simp; all_goals (with_reducible rfl))
  try simp only [Act.put, List.getElem_toArray, List.getElem_cons_zero, List.getElem_cons_succ, List.setIfInBounds_toArray, List.set_cons_zero, List.set_cons_succ]
  refine wpAnyH_take (i := 6) (oi := _) (v := ?_) rfl (by kernel_rfl) (by kernel_rfl) (by kernel_rfl) (fun _ _ _ h => h) (Or.inl ⟨by rfl, ?_⟩) (by assumption) ?_
  rotate_left 1
  · (intro w hSw; (try dsimp only at hSw); go_simp; all_goals (with_reducible rfl))
  try simp only [Act.put, List.getElem_toArray, List.getElem_cons_zero, List.getElem_cons_succ, List.setIfInBounds_toArray, List.set_cons_zero, List.set_cons_succ]
  refine' wpAnyH_take (i := 7) (oi := _) (v := _) rfl (by kernel_rfl) (by kernel_rfl) (by kernel_rfl) (fun _ _ _ h => h) (yieldsIf_load_mid (by rfl) _ _ rfl _ _ rfl _ _ ?ls3 ?lu3 ?ld3 ?li3) (by assumption) ?lr3
  case ls3 => (intro w hSw; (try dsimp only at hSw); go_split_ands; assumption)
  case lu3 => assumption
  case ld3 => rfl
  case li3 => first | assumption | (simp only [*]; done)
  try simp only [Act.put, List.getElem_toArray, List.getElem_cons_zero, List.getElem_cons_succ, List.setIfInBounds_toArray, List.set_cons_zero, List.set_cons_succ]
  refine wpAnyH_ready (rs := [5]) (by kernel_rfl) (by simp) ?_
  refine AllReadyH.cons (o := _) rfl (fun K hK => ?_) ?_
  rotate_left 1
  · exact AllReadyH.nil
  go_simp
  go_at_call 73
  refine (auditHead _ g 1 _ ⟨#[97, 110, 110]⟩ w2Ent.sum _ (HLGB.out.below hHeld.2) (by unfold maxLen;decide) (by decide) rfl).mono ?_
  rintro _ wC ⟨rfl, hBC⟩
  dsimp only
  refine hK.out _ _ ?_ (fun hHeld => ?_)
  · (apply wks_below; assumption; assumption)
  clear hK K
  try simp only [Act.put, List.getElem_toArray, List.getElem_cons_zero, List.getElem_cons_succ, List.setIfInBounds_toArray, List.set_cons_zero, List.set_cons_succ]
  refine wpAnyH_take (i := 8) (oi := _) (v := ?_) rfl (by kernel_rfl) (by kernel_rfl) (by kernel_rfl) (fun _ _ _ h => h) (Or.inl ⟨by rfl, ?_⟩) (by assumption) ?_
  rotate_left 1
  · (intro w hSw; (try dsimp only at hSw); go_simp; all_goals (with_reducible rfl))
  try simp only [Act.put, List.getElem_toArray, List.getElem_cons_zero, List.getElem_cons_succ, List.setIfInBounds_toArray, List.set_cons_zero, List.set_cons_succ]
  refine wpAnyH_take (i := 9) (oi := _) (v := ?_) rfl (by kernel_rfl) (by kernel_rfl) (by kernel_rfl) (fun _ _ _ h => h) (Or.inl ⟨by rfl, ?_⟩) (by assumption) ?_
  rotate_left 1
  · (intro w hSw; (try dsimp only at hSw); go_simp; all_goals (with_reducible rfl))
  try simp only [Act.put, List.getElem_toArray, List.getElem_cons_zero, List.getElem_cons_succ, List.setIfInBounds_toArray, List.set_cons_zero, List.set_cons_succ]
  refine wpAnyH_take (i := 10) (oi := _) (v := ?_) rfl (by kernel_rfl) (by kernel_rfl) (by kernel_rfl) (fun _ _ _ h => h) (Or.inl ⟨by rfl, ?_⟩) (by assumption) ?_
  rotate_left 1
  · (intro w hSw; (try dsimp only at hSw); go_simp; all_goals (with_reducible rfl))
  try simp only [Act.put, List.getElem_toArray, List.getElem_cons_zero, List.getElem_cons_succ, List.setIfInBounds_toArray, List.set_cons_zero, List.set_cons_succ]
  refine wpAnyH_take (i := 11) (oi := _) (v := ?_) rfl (by kernel_rfl) (by kernel_rfl) (by kernel_rfl) (fun _ _ _ h => h) (Or.inl ⟨by rfl, ?_⟩) (by assumption) ?_
  rotate_left 1
  · (intro w hSw; (try dsimp only at hSw); go_simp; all_goals (with_reducible rfl))
  try simp only [Act.put, List.getElem_toArray, List.getElem_cons_zero, List.getElem_cons_succ, List.setIfInBounds_toArray, List.set_cons_zero, List.set_cons_succ]
  refine wpAnyH_ready (rs := [12]) (by kernel_rfl) (by simp) ?_
  refine AllReadyH.cons (o := _) rfl (fun K hK => ?_) ?_
  rotate_left 1
  · exact AllReadyH.nil
  go_simp
  go_at_call 74
  refine (auditCount _ g 1 _ ⟨#[97, 110, 110]⟩ _ (HLGB.out.below hHeld.2) (by unfold maxLen;decide) (by decide)).mono ?_
  rintro _ wC2 ⟨rfl, rfl⟩
  dsimp only
  rw [hcn1]
  refine hK.out _ _ ?_ (fun hHeld => ?_)
  · (assumption)
  clear hK K
  try simp only [Act.put, List.getElem_toArray, List.getElem_cons_zero, List.getElem_cons_succ, List.setIfInBounds_toArray, List.set_cons_zero, List.set_cons_succ]
  refine wpAnyH_take (i := 13) (oi := _) (v := ?_) rfl (by kernel_rfl) (by kernel_rfl) (by kernel_rfl) (fun _ _ _ h => h) (Or.inl ⟨by rfl, ?_⟩) (by assumption) ?_
  rotate_left 1
  · (intro w hSw; (try dsimp only at hSw); go_simp; all_goals (with_reducible rfl))
  try simp only [Act.put, List.getElem_toArray, List.getElem_cons_zero, List.getElem_cons_succ, List.setIfInBounds_toArray, List.set_cons_zero, List.set_cons_succ]
  refine wpAnyH_take (i := 14) (oi := _) (v := ?_) rfl (by kernel_rfl) (by kernel_rfl) (by kernel_rfl) (fun _ _ _ h => h) (Or.inl ⟨by rfl, ?_⟩) (by assumption) ?_
  rotate_left 1
  · (intro w hSw; (try dsimp only at hSw); go_simp; all_goals (with_reducible rfl))
  try simp only [Act.put, List.getElem_toArray, List.getElem_cons_zero, List.getElem_cons_succ, List.setIfInBounds_toArray, List.set_cons_zero, List.set_cons_succ]
  refine wpAnyH_take (i := 15) (oi := _) (v := ?_) rfl (by kernel_rfl) (by kernel_rfl) (by kernel_rfl) (fun _ _ _ h => h) (Or.inl ⟨by rfl, ?_⟩) (by assumption) ?_
  rotate_left 1
  · (intro w hSw; (try dsimp only at hSw); go_simp; all_goals (with_reducible rfl))
  try simp only [Act.put, List.getElem_toArray, List.getElem_cons_zero, List.getElem_cons_succ, List.setIfInBounds_toArray, List.set_cons_zero, List.set_cons_succ]
  refine wpAnyH_take (i := 16) (oi := _) (v := ?_) rfl (by kernel_rfl) (by kernel_rfl) (by kernel_rfl) (fun _ _ _ h => h) (Or.inl ⟨by rfl, ?_⟩) (by assumption) ?_
  rotate_left 1
  · (intro w hSw; (try dsimp only at hSw); go_simp; all_goals (with_reducible rfl))
  try simp only [Act.put, List.getElem_toArray, List.getElem_cons_zero, List.getElem_cons_succ, List.setIfInBounds_toArray, List.set_cons_zero, List.set_cons_succ]
  refine wpAnyH_ready (rs := [17]) (by kernel_rfl) (by simp) ?_
  refine AllReadyH.cons (o := _) rfl (fun K hK => ?_) ?_
  rotate_left 1
  · exact AllReadyH.nil
  go_simp
  go_at_call 74
  refine (auditCount _ g 1 _ ⟨#[98, 111, 98]⟩ _ (HLGB.out.below hHeld.2) (by unfold maxLen;decide) (by decide)).mono ?_
  rintro _ wC3 ⟨rfl, rfl⟩
  dsimp only
  rw [hcn2]
  refine hK.out _ _ ?_ (fun hHeld => ?_)
  · (assumption)
  clear hK K
  try simp only [Act.put, List.getElem_toArray, List.getElem_cons_zero, List.getElem_cons_succ, List.setIfInBounds_toArray, List.set_cons_zero, List.set_cons_succ]
  refine wpAnyH_take (i := 18) (oi := _) (v := ?_) rfl (by kernel_rfl) (by kernel_rfl) (by kernel_rfl) (fun _ _ _ h => h) (Or.inl ⟨by rfl, ?_⟩) (by assumption) ?_
  rotate_left 1
  · (intro w hSw; (try dsimp only at hSw); go_simp; all_goals (with_reducible rfl))
  try simp only [Act.put, List.getElem_toArray, List.getElem_cons_zero, List.getElem_cons_succ, List.setIfInBounds_toArray, List.set_cons_zero, List.set_cons_succ]
  refine wpAnyH_take (i := 19) (oi := _) (v := ?_) rfl (by kernel_rfl) (by kernel_rfl) (by kernel_rfl) (fun _ _ _ h => h) (Or.inl ⟨by rfl, ?_⟩) (by assumption) ?_
  rotate_left 1
  · (intro w hSw; (try dsimp only at hSw); go_simp; all_goals (with_reducible rfl))
  try simp only [Act.put, List.getElem_toArray, List.getElem_cons_zero, List.getElem_cons_succ, List.setIfInBounds_toArray, List.set_cons_zero, List.set_cons_succ]
  refine wpAnyH_take (i := 20) (oi := _) (v := ?_) rfl (by kernel_rfl) (by kernel_rfl) (by kernel_rfl) (fun _ _ _ h => h) (Or.inl ⟨by rfl, ?_⟩) (by assumption) ?_
  rotate_left 1
  · (intro w hSw; (try dsimp only at hSw); go_simp; all_goals (with_reducible rfl))
  try simp only [Act.put, List.getElem_toArray, List.getElem_cons_zero, List.getElem_cons_succ, List.setIfInBounds_toArray, List.set_cons_zero, List.set_cons_succ]
  refine wpAnyH_take (i := 21) (oi := _) (v := ?_) rfl (by kernel_rfl) (by kernel_rfl) (by kernel_rfl) (fun _ _ _ h => h) (Or.inl ⟨by rfl, ?_⟩) (by assumption) ?_
  rotate_left 1
  · (intro w hSw; (try dsimp only at hSw); go_simp; all_goals (with_reducible rfl))
  try simp only [Act.put, List.getElem_toArray, List.getElem_cons_zero, List.getElem_cons_succ, List.setIfInBounds_toArray, List.set_cons_zero, List.set_cons_succ]
  refine wpAnyH_take (i := 23) (oi := _) (v := ?_) rfl (by kernel_rfl) (by kernel_rfl) (by kernel_rfl) (fun _ _ _ h => h) (Or.inl ⟨by rfl, ?_⟩) (by assumption) ?_
  rotate_left 1
  · (intro w hSw; (try dsimp only at hSw); go_simp; all_goals (with_reducible rfl))
  try simp only [Act.put, List.getElem_toArray, List.getElem_cons_zero, List.getElem_cons_succ, List.setIfInBounds_toArray, List.set_cons_zero, List.set_cons_succ]
  refine wpAnyH_ready (rs := [22]) (by kernel_rfl) (by simp) ?_
  refine AllReadyH.cons (o := _) rfl (fun K hK => ?_) ?_
  rotate_left 1
  · exact AllReadyH.nil
  go_simp
  go_at_call 73
  refine (auditHead _ g 1 _ ⟨#[98, 111, 98]⟩ zeros32 _ (HLGB.out.below hHeld.2) (by unfold maxLen;decide) (by decide) hbob).mono ?_
  rintro _ wD ⟨rfl, hBD⟩
  dsimp only
  refine hK.out _ _ ?_ (fun hHeld => ?_)
  · (apply wks_below; assumption; assumption)
  clear hK K
  try simp only [Act.put, List.getElem_toArray, List.getElem_cons_zero, List.getElem_cons_succ, List.setIfInBounds_toArray, List.set_cons_zero, List.set_cons_succ]
  refine wpAnyH_take (i := 24) (oi := _) (v := ?_) rfl (by kernel_rfl) (by kernel_rfl) (by kernel_rfl) (fun _ _ _ h => h) (Or.inl ⟨by rfl, ?_⟩) (by assumption) ?_
  rotate_left 1
  · (intro w hSw; (try dsimp only at hSw); go_simp; all_goals (with_reducible rfl))
  try simp only [Act.put, List.getElem_toArray, List.getElem_cons_zero, List.getElem_cons_succ, List.setIfInBounds_toArray, List.set_cons_zero, List.set_cons_succ]
  refine wpAnyH_take (i := 25) (oi := _) (v := ?_) rfl (by kernel_rfl) (by kernel_rfl) (by kernel_rfl) (fun _ _ _ h => h) (Or.inl ⟨by rfl, ?_⟩) (by assumption) ?_
  rotate_left 1
  · (intro w hSw; (try dsimp only at hSw); go_simp; all_goals (with_reducible rfl))
  try simp only [Act.put, List.getElem_toArray, List.getElem_cons_zero, List.getElem_cons_succ, List.setIfInBounds_toArray, List.set_cons_zero, List.set_cons_succ]
  refine wpAnyH_take (i := 26) (oi := _) (v := ?_) rfl (by kernel_rfl) (by kernel_rfl) (by kernel_rfl) (fun _ _ _ h => h) (Or.inl ⟨by rfl, ?_⟩) (by assumption) ?_
  rotate_left 1
  · (intro w hSw; (try dsimp only at hSw); go_simp; all_goals (with_reducible rfl))
  try simp only [Act.put, List.getElem_toArray, List.getElem_cons_zero, List.getElem_cons_succ, List.setIfInBounds_toArray, List.set_cons_zero, List.set_cons_succ]
  refine wpAnyH_take (i := 27) (oi := _) (v := ?_) rfl (by kernel_rfl) (by kernel_rfl) (by kernel_rfl) (fun _ _ _ h => h) (Or.inl ⟨by rfl, ?_⟩) (by assumption) ?_
  rotate_left 1
  · (intro w hSw; (try dsimp only at hSw); go_simp; all_goals (with_reducible rfl))
  try simp only [Act.put, List.getElem_toArray, List.getElem_cons_zero, List.getElem_cons_succ, List.setIfInBounds_toArray, List.set_cons_zero, List.set_cons_succ]
  refine wpAnyH_take (i := 28) (oi := _) (v := ?_) rfl (by kernel_rfl) (by kernel_rfl) (by kernel_rfl) (fun _ _ _ h => h) (Or.inl ⟨by rfl, ?_⟩) (by assumption) ?_
  rotate_left 1
  · (intro w hSw; (try dsimp only at hSw); go_simp; all_goals (with_reducible rfl))
  try simp only [Act.put, List.getElem_toArray, List.getElem_cons_zero, List.getElem_cons_succ, List.setIfInBounds_toArray, List.set_cons_zero, List.set_cons_succ]
  refine wpAnyH_take (i := 29) (oi := _) (v := ?_) rfl (by kernel_rfl) (by kernel_rfl) (by kernel_rfl) (fun _ _ _ h => h) (Or.inl ⟨by rfl, ?_⟩) (by assumption) ?_
  rotate_left 1
  · (intro w hSw; (try dsimp only at hSw); go_simp; all_goals (with_reducible rfl))
  try simp only [Act.put, List.getElem_toArray, List.getElem_cons_zero, List.getElem_cons_succ, List.setIfInBounds_toArray, List.set_cons_zero, List.set_cons_succ]
  refine wpAnyH_take (i := 30) (oi := _) (v := ?_) rfl (by kernel_rfl) (by kernel_rfl) (by kernel_rfl) (fun _ _ _ h => h) (Or.inl ⟨by rfl, ?_⟩) (by assumption) ?_
  rotate_left 1
  · (intro w hSw; (try dsimp only at hSw); go_simp; all_goals (with_reducible rfl))
  try simp only [Act.put, List.getElem_toArray, List.getElem_cons_zero, List.getElem_cons_succ, List.setIfInBounds_toArray, List.set_cons_zero, List.set_cons_succ]
  refine wpAnyH_take (i := 31) (oi := _) (v := ?_) rfl (by kernel_rfl) (by kernel_rfl) (by kernel_rfl) (fun _ _ _ h => h) (Or.inl ⟨by rfl, ?_⟩) (by assumption) ?_
  rotate_left 1
  · (intro w hSw; (try dsimp only at hSw); go_simp; all_goals (with_reducible rfl))
  try simp only [Act.put, List.getElem_toArray, List.getElem_cons_zero, List.getElem_cons_succ, List.setIfInBounds_toArray, List.set_cons_zero, List.set_cons_succ]
  refine wpAnyH_take (i := 32) (oi := _) (v := ?_) rfl (by kernel_rfl) (by kernel_rfl) (by kernel_rfl) (fun _ _ _ h => h) (Or.inl ⟨by rfl, ?_⟩) (by assumption) ?_
  rotate_left 1
  · (intro w hSw; (try dsimp only at hSw); go_simp; all_goals (with_reducible rfl))
  try simp only [Act.put, List.getElem_toArray, List.getElem_cons_zero, List.getElem_cons_succ, List.setIfInBounds_toArray, List.set_cons_zero, List.set_cons_succ]
  refine wpAnyH_take (i := 33) (oi := _) (v := ?_) rfl (by kernel_rfl) (by kernel_rfl) (by kernel_rfl) (fun _ _ _ h => h) (Or.inl ⟨by rfl, ?_⟩) (by assumption) ?_
  rotate_left 1
  · (intro w hSw; (try dsimp only at hSw); go_simp; all_goals (with_reducible rfl))
  try simp only [Act.put, List.getElem_toArray, List.getElem_cons_zero, List.getElem_cons_succ, List.setIfInBounds_toArray, List.set_cons_zero, List.set_cons_succ]
  refine wpAnyH_take (i := 34) (oi := _) (v := ?_) rfl (by kernel_rfl) (by kernel_rfl) (by kernel_rfl) (fun _ _ _ h => h) (Or.inl ⟨by rfl, ?_⟩) (by assumption) ?_
  rotate_left 1
  · (intro w hSw; (try dsimp only at hSw); go_simp; all_goals (with_reducible rfl))
  try simp only [Act.put, List.getElem_toArray, List.getElem_cons_zero, List.getElem_cons_succ, List.setIfInBounds_toArray, List.set_cons_zero, List.set_cons_succ]
  refine wpAnyH_take (i := 35) (oi := _) (v := ?_) rfl (by kernel_rfl) (by kernel_rfl) (by kernel_rfl) (fun _ _ _ h => h) (Or.inl ⟨by rfl, ?_⟩) (by assumption) ?_
  rotate_left 1
  · (intro w hSw; (try dsimp only at hSw); go_simp; all_goals (with_reducible rfl))
  try simp only [Act.put, List.getElem_toArray, List.getElem_cons_zero, List.getElem_cons_succ, List.setIfInBounds_toArray, List.set_cons_zero, List.set_cons_succ]
  refine wpAnyH_take (i := 36) (oi := _) (v := ?_) rfl (by kernel_rfl) (by kernel_rfl) (by kernel_rfl) (fun _ _ _ h => h) (Or.inl ⟨by rfl, ?_⟩) (by assumption) ?_
  rotate_left 1
  · (intro w hSw; (try dsimp only at hSw); go_simp; all_goals (with_reducible rfl))
  try simp only [Act.put, List.getElem_toArray, List.getElem_cons_zero, List.getElem_cons_succ, List.setIfInBounds_toArray, List.set_cons_zero, List.set_cons_succ]
  refine wpAnyH_take (i := 37) (oi := _) (v := ?_) rfl (by kernel_rfl) (by kernel_rfl) (by kernel_rfl) (fun _ _ _ h => h) (Or.inl ⟨by rfl, ?_⟩) (by assumption) ?_
  rotate_left 1
  · (intro w hSw; (try dsimp only at hSw); go_simp; all_goals (with_reducible rfl))
  try simp only [Act.put, List.getElem_toArray, List.getElem_cons_zero, List.getElem_cons_succ, List.setIfInBounds_toArray, List.set_cons_zero, List.set_cons_succ]
  refine wpAnyH_take (i := 38) (oi := _) (v := ?_) rfl (by kernel_rfl) (by kernel_rfl) (by kernel_rfl) (fun _ _ _ h => h) (Or.inl ⟨by rfl, ?_⟩) (by assumption) ?_
  rotate_left 1
  · (intro w hSw; (try dsimp only at hSw); go_simp; all_goals (with_reducible rfl))
  try simp only [Act.put, List.getElem_toArray, List.getElem_cons_zero, List.getElem_cons_succ, List.setIfInBounds_toArray, List.set_cons_zero, List.set_cons_succ]
  refine wpAnyH_take (i := 39) (oi := _) (v := ?_) rfl (by kernel_rfl) (by kernel_rfl) (by kernel_rfl) (fun _ _ _ h => h) (Or.inl ⟨by rfl, ?_⟩) (by assumption) ?_
  rotate_left 1
  · (intro w hSw; (try dsimp only at hSw); go_simp; all_goals (with_reducible rfl))
  try simp only [Act.put, List.getElem_toArray, List.getElem_cons_zero, List.getElem_cons_succ, List.setIfInBounds_toArray, List.set_cons_zero, List.set_cons_succ]
  refine wpAnyH_take (i := 40) (oi := _) (v := ?_) rfl (by kernel_rfl) (by kernel_rfl) (by kernel_rfl) (fun _ _ _ h => h) (Or.inl ⟨by rfl, ?_⟩) (by assumption) ?_
  rotate_left 1
  · (intro w hSw; (try dsimp only at hSw); go_simp; all_goals (with_reducible rfl))
  try simp only [Act.put, List.getElem_toArray, List.getElem_cons_zero, List.getElem_cons_succ, List.setIfInBounds_toArray, List.set_cons_zero, List.set_cons_succ]
  refine wpAnyH_take (i := 41) (oi := _) (v := ?_) rfl (by kernel_rfl) (by kernel_rfl) (by kernel_rfl) (fun _ _ _ h => h) (Or.inl ⟨by rfl, ?_⟩) (by assumption) ?_
  rotate_left 1
  · (intro w hSw; (try dsimp only at hSw); go_simp; all_goals (with_reducible rfl))
  try simp only [Act.put, List.getElem_toArray, List.getElem_cons_zero, List.getElem_cons_succ, List.setIfInBounds_toArray, List.set_cons_zero, List.set_cons_succ]
  refine wpAnyH_take (i := 42) (oi := _) (v := ?_) rfl (by kernel_rfl) (by kernel_rfl) (by kernel_rfl) (fun _ _ _ h => h) (Or.inl ⟨by rfl, ?_⟩) (by assumption) ?_
  rotate_left 1
  · (intro w hSw; (try dsimp only at hSw); go_simp; all_goals (with_reducible rfl))
  try simp only [Act.put, List.getElem_toArray, List.getElem_cons_zero, List.getElem_cons_succ, List.setIfInBounds_toArray, List.set_cons_zero, List.set_cons_succ]
  refine wpAnyH_done (by kernel_rfl) ?_ _
  refine NoPanic.normal ?_
  have hfin : Below w.heap.size w _ := hB0B.trans (hHeld.2.mono hB0B.size)
  clear hHeld hS0
  (repeat' ((fail_if_success at_builtin); first | go_values | go_skip | go_guarded | go_step | go_upon))
  go_ret
  exact ⟨rfl, hfin⟩

end Go.Proofs.YtdpfemhfmofmlaaDoor
