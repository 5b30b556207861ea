/- What package audit answers: the row behind a chain. -/
import Derived.Test.YtdpfemhfmofmlaaDoorAudC
namespace Go.Proofs.YtdpfemhfmofmlaaDoor
set_option linter.unusedSimpArgs false
set_option linter.unusedVariables false
open Go.RowKit
set_option maxRecDepth 10000

def zEnt : Ent := ⟨0, 0, 0, 0, 0, ByteArray.empty, ByteArray.empty, List.replicate 32 0⟩
theorem zeroEnt : (Tryd.prog.info? 73).bind (fun i => i.zero.map (·.cells)) = some zEnt.cells.toArray := by kernel_rfl
theorem ent_set_no (x : Ent) (v : Int) : x.cells.set 0 (.int .i64 v) = ({ x with no := v } : Ent).cells := rfl
theorem ent_set_sum (x : Ent) (D : List UInt8) (hx : x.sum.length = 32) (hD : D.length = 32) : splice x.cells 7 (bvs D) = ({ x with sum := D } : Ent).cells := by
  have h1 : x.front.length = 7 := rfl
  unfold splice Ent.cells
  rw [List.take_append_of_le_length (by omega), List.take_of_length_le (by omega), List.drop_of_length_le (by rw [List.length_append, bvs_length, bvs_length, hx, hD]; omega), List.append_nil]
  rfl
/-- All but block z is as it was. -/
abbrev RowF (w2 : World) (z : Nat) (w' : World) : Prop := Frm w2.heap.size (fun k => k = z) w2 w'
theorem rowF {w2 w' : World} {z : Nat} (hb : Below w2.heap.size w2 w') : RowF w2 z w' := Frm.ofBelow hb
theorem rowG {w2 w' w'' : World} {z : Nat} (hb : Below w2.heap.size w2 w') (hg : w'.grownBy w'' (some z)) : RowF w2 z w'' := (Frm.ofBelow hb).grown hg hb.size (fun k e _ => by cases e; rfl)
abbrev RowS (w2 : World) (z : Nat) (y : Ent) (w' : World) : Prop := w'.rangeAt z 0 y.cells ∧ Below w2.heap.size w2 w'
theorem rows_below {w2 w' w'' : World} {z : Nat} {y : Ent} (hb : Below w'.heap.size w' w'') (h : RowS w2 z y w') : RowS w2 z y w'' := ⟨rangeAt_below h.1 hb (Nat.le_refl _), h.2.trans (hb.mono h.2.size)⟩

set_option maxHeartbeats 2000000 in
theorem chainRow (a : Option Addr) (n c : Nat) (xs : List Ent) (x r : Ent) (w : World) (hr : rowOf xs x = r) (hT : Tabs w) (h : RdC w a (xs.flatMap Ent.cells)) (hok : ∀ x ∈ xs, x.Ok) (hx : x.Ok) (en : xs.length = n) (hn : n ≤ 1000000) (h5 : x.stream.size ≤ 4096) (h6 : x.subject.size ≤ 4096) :
    Calls Tryd.prog 101 #[.slice a n c, .agg x.cells.toArray] w fun e w' => e = .returned (.agg r.cells.toArray) ∧ Below w.heap.size w w' := by
  obtain ⟨iE, zE, hiE, hzE, hcE⟩ := fresh_parts zeroEnt
  have HIE := Lib.hid hiE; clear hiE
  have HZE := Lib.hid hzE; clear hzE
  have HCE := Lib.hid hcE; clear hcE
  have hts := hT.size
  have HT := Lib.hid hT; clear hT
  have HRX := Lib.hid h; clear h
  have HOK := Lib.hid hok; clear hok
  subst en
  obtain ⟨y, hy⟩ : ∃ y : Ent, { x with no := (xs.length : Int) + 1 } = y := ⟨_, rfl⟩
  obtain ⟨P, hP⟩ : ∃ P, headOf xs = P := ⟨_, rfl⟩
  obtain ⟨D, hD⟩ : ∃ D, Ent.next P y = D := ⟨_, rfl⟩
  have hr2 : { y with sum := D } = r := by rw [← hr, ← hD, ← hP, ← hy]; rfl
  have hyo : y.Ok := by rw [← hy]; exact ⟨⟨by show _ ≤ (xs.length : Int) + 1; omega, by show (xs.length : Int) + 1 ≤ _; omega⟩, hx.clock, hx.kind, hx.code, hx.id, hx.stream, hx.subject, hx.sum⟩
  have hys : y.stream.size ≤ 4096 ∧ y.subject.size ≤ 4096 := by rw [← hy]; exact ⟨h5, h6⟩
  have hyc : x.cells.set 0 (.int .i64 ((xs.length : Int) + 1)) = y.cells := by rw [← hy]; rfl
  have hPl : P.length = 32 := by rw [← hP]; exact headOf_length xs HOK.out
  have hDl : D.length = 32 := by rw [← hD]; exact Ent.next_length _ _
  have hxl : x.cells.length = 39 := Ent.cells_length hx.sum
  clear hr hy hx h5 h6
  have HP := Lib.hid hP; clear hP
  have HD := Lib.hid hD; clear hD
  have HR := Lib.hid hr2; clear hr2
  have HYC := Lib.hid hyc; clear hyc
  have HPL := Lib.hid hPl; clear hPl
  have HDL := Lib.hid hDl; clear hDl
  have HXL := Lib.hid hxl; clear hxl
  have HYO := Lib.hid hyo; clear hyo
  have hg0 : (w.alloc (.cells x.cells.toArray 73)).heap[w.heap.size]? = some (.cells x.cells.toArray 73 (0, 0)) := heap_alloc_new w _
  have HG0 := Lib.hid hg0; clear hg0
  go_enter Tryd.func101, Tryd.ntmps101
  (repeat' ((fail_if_success at_builtin); first | (first | ((with_reducible refine wpList_alloc_fresh (w := w.alloc (.cells x.cells.toArray 73)) rfl 73 rfl _ iE zE HIE.out HZE.out HCE.out ?_); intro w1 hg1 hB1 hs1; have HG1 := Lib.hid hg1; clear hg1; have HS1 := Lib.hid hs1; clear hs1; have hg2 := (hB1.block w.heap.size (by simp)).trans HG0.out; have c0 : w1.cell? ⟨w.heap.size, 0, none⟩ = some (.int .i64 x.no) := cell_of_row w1 w.heap.size 0 _ _ _ hg2; have f0 := frozen_of_row w1 w.heap.size 0 _ _ hg2; have HG2 := Lib.hid hg2; clear hg2)) | go_values | go_skip | go_guarded | go_step | go_upon))
  have hsa : (w.alloc (.cells x.cells.toArray 73)).heap.size = w.heap.size + 1 := by simp
  obtain ⟨w2, hw2⟩ : ∃ w2, w1.setCell ⟨w.heap.size, 0, none⟩ (.int .i64 ((xs.length : Int) + 1)) = w2 := ⟨_, rfl⟩
  have hBa : Below w.heap.size w (w.alloc (.cells x.cells.toArray 73)) := (Below.refl _ _).alloc (Nat.le_refl _) _
  have hB01 : Below w.heap.size w w1 := hBa.trans (hB1.mono hBa.size)
  have hB2 : Below w.heap.size w w2 := by rw [← hw2]; exact hB01.setCell (Nat.le_refl _) _
  have hs2 : w2.heap.size = w.heap.size + 2 := by rw [← hw2]; simp [World.setCell]; rw [HS1.out]; simp
  have hg2 : w2.heap[w.heap.size]? = some (.cells y.cells.toArray 73 (0, 0)) := by
    rw [← hw2, row_set HG2.out, List.setIfInBounds_toArray, HYC.out]
  have hg3 : w2.heap[w.heap.size + 1]? = some (.cells zEnt.cells.toArray 73 (0, 0)) := by
    rw [← hw2]
    have := HG1.out
    rw [hsa] at this
    exact (Below.heap_setCell _ _ _ _ (by show w.heap.size + 1 ≠ w.heap.size; omega)).trans this
  rw [hw2]
  have HQ3 := Lib.hid hg3; clear hg3
  have HS2 := Lib.hid hs2; clear hs2
  have hr2d : w2.drew.rangeAt w.heap.size 0 y.cells := rangeAt_whole (w := w2.drew) hg2
  have hB2d : Below w.heap.size w w2.drew := hB2.drew
  have HQ2 := Lib.hid hg2
  have HID := Lib.hid (show (Tryd.prog.info? 26).map (·.size) = some (bvs D).length by rw [bvs_length, HDL.out]; exact sizeSum)
  have HFD := Lib.hid (show 7 + (bvs D).length ≤ y.cells.toArray.size by rw [List.size_toArray, Ent.cells_length HYO.out.sum, bvs_length, HDL.out]; omega)
  have HDO := Lib.hid (bvs_oneCell D)
  have HSP := Lib.hid (show splice y.cells 7 (bvs D) = r.cells by rw [ent_set_sum y D HYO.out.sum HDL.out, HR.out])
  have hRL : r.cells.length = 39 := Ent.cells_length (by rw [← HR.out]; exact HDL.out)
  have HIR := Lib.hid (show (Tryd.prog.info? 73).map (·.size) = some r.cells.length by rw [hRL]; exact entSize)
  have HFR := Lib.hid (show 0 + r.cells.length ≤ zEnt.cells.toArray.size by rw [hRL]; exact Nat.le_refl _)
  have HRO := Lib.hid r.cells_oneCell
  have HRC := Lib.hid hRL; clear hRL
  have hu73 : Tryd.prog.underlying 73 = some _ := Tryd.underlying73
  have hiY : (Tryd.prog.info? 73).map (·.size) = some y.cells.length := by rw [Ent.cells_length HYO.out.sum]; exact entSize
  have hyf : ∀ w' : World, w'.rangeAt w.heap.size 0 y.cells → True := fun _ _ => trivial
  clear c0 f0 HG2 HG1 HG0 HS1 hw2 hsa hB1 hBa hB01 hg2 hyf
  (repeat' ((fail_if_success at_builtin); first | go_values | go_skip | go_guarded | go_step | go_upon))
  refine wp_region_noPanic ?_
  refine wp_region_held_drew (S := RowF w2 w.heap.size) (by kernel_rfl) ?_ (fun hHeld => ?_)
  · exact rowF (Below.refl _ _).drew
  refine wpAnyH_take (i := 0) (oi := _) (v := ?_) rfl (by kernel_rfl) (by kernel_rfl) (by kernel_rfl) (fun _ _ _ h => h) (Or.inl ⟨by rfl, ?_⟩) (by assumption) ?_
  rotate_left 1
  · (intro w hSw; (try dsimp only at hSw); go_simp; all_goals (with_reducible rfl))
  try simp only [Act.put, List.setIfInBounds_toArray, List.set_cons_zero, List.set_cons_succ]
  refine wpAnyH_ready (rs := [1, 2]) (by kernel_rfl) (by simp) ?_
  refine AllReadyH.cons (o := _) rfl (fun K hK => ?_) ?_
  rotate_left 1
  · refine AllReadyH.cons (o := _) rfl (fun K hK => ?_) ?_
    rotate_left 1
    · exact AllReadyH.nil
    refine step_load_mid rfl 73 _ rfl w.heap.size 0 rfl y.cells _ hr2d hu73 rfl hiY ?_
    refine hK.out _ _ ?_ (fun hHeld => ?_)
    · (exact rowF (Below.refl _ _).drew)
    clear hK K
    try simp only [Act.put, List.setIfInBounds_toArray, List.set_cons_zero, List.set_cons_succ]
    refine wpAnyH_ready (rs := [1]) (by kernel_rfl) (by simp) ?_
    refine AllReadyH.cons (o := _) rfl (fun K hK => ?_) ?_
    rotate_left 1
    · exact AllReadyH.nil
    go_simp
    go_at_call 102
    refine (chainHead a xs.length c xs P _ HP.out (HRX.out.below hB2d (Nat.le_refl _)) HOK.out rfl hn).mono ?_
    rintro _ wA ⟨rfl, hBA⟩
    dsimp only
    have hBc : Below w2.heap.size w2 wA := (Below.refl _ _).drew.trans hBA
    refine hK.out _ _ ?_ (fun hHeld => ?_)
    · (exact rowF hBc)
    clear hK K
    try simp only [Act.put, List.setIfInBounds_toArray, List.set_cons_zero, List.set_cons_succ]
    clear hBA
    have hB0c := hB2.trans (hBc.mono hB2.size)
    refine wpAnyH_ready (rs := [3]) (by kernel_rfl) (by simp) ?_
    refine AllReadyH.cons (o := _) rfl (fun K hK => ?_) ?_
    rotate_left 1
    · exact AllReadyH.nil
    go_simp
    go_at_call 61
    refine (auditNext P D y _ HD.out (HT.out.below hB0c hts) HPL.out HYO.out hys.1 hys.2).mono ?_
    rintro _ wB ⟨rfl, hBB⟩
    dsimp only
    have hB2B := hBc.trans (hBB.mono hBc.size)
    refine hK.out _ _ ?_ (fun hHeld => ?_)
    · (exact rowF hB2B)
    clear hK K
    try simp only [Act.put, List.setIfInBounds_toArray, List.set_cons_zero, List.set_cons_succ]
    refine wpAnyH_take (i := 4) (oi := _) (v := ?_) rfl (by kernel_rfl) (by kernel_rfl) (by kernel_rfl) (fun _ _ _ h => h) (Or.inl ⟨by rfl, ?_⟩) (by assumption) ?_
    rotate_left 1
    · (intro w hSw; (try dsimp only at hSw); go_simp; all_goals (with_reducible rfl))
    try simp only [Act.put, List.setIfInBounds_toArray, List.set_cons_zero, List.set_cons_succ]
    have hg4 := (hB2B.block w.heap.size (by rw [HS2.out]; omega)).trans HQ2.out
    refine wpAnyH_ready (rs := [5]) (by kernel_rfl) (by simp) ?_
    refine AllReadyH.cons (o := _) rfl (fun K hK => ?_) ?_
    rotate_left 1
    · exact AllReadyH.nil
    refine step_store_blk rfl _ _ _ rfl w.heap.size 7 (bvs D) rfl rfl _ _ hg4 HFD.out HID.out HDO.out ?_
    intro w5 hg5 hG5
    rw [List.toList_toArray, HSP.out] at hg5
    refine hK.out _ _ ?_ (fun hHeld => ?_)
    · (exact rowG hB2B hG5)
    clear hK K
    try simp only [Act.put, List.setIfInBounds_toArray, List.set_cons_zero, List.set_cons_succ]
    refine wpAnyH_done (by kernel_rfl) ?_ _
    refine NoPanic.normal ?_
    have hB02 := hB2.trans (hB2B.mono hB2.size)
    have hB05 : Below w.heap.size w w5 := hB02.grown hG5 hB02.size (fun k e => by cases e; exact Nat.le_refl _)
    have hg6 := (hG5.block (w.heap.size + 1) (by have := hB2B.size; rw [HS2.out] at this; omega) (by simp)).trans ((hB2B.block (w.heap.size + 1) (by rw [HS2.out]; omega)).trans HQ3.out)
    have HG5 := Lib.hid (rangeAt_whole hg5)
    have HG6 := Lib.hid hg6
    clear hg5 hg6 hg4 hHeld hB02 hB2B hBB hB0c hBc
    (repeat' ((fail_if_success at_builtin); first | (first | (with_reducible refine wpList_load_mid rfl 73 _ rfl w.heap.size 0 rfl r.cells _ HG5.out hu73 rfl HIR.out ?_) | ((with_reducible refine wpList_store_blk rfl 73 _ _ rfl (w.heap.size + 1) 0 r.cells rfl rfl _ _ HG6.out HFR.out HIR.out HRO.out ?_); intro w7 hg7 hG7; rw [splice_whole _ _ (by rw [HRC.out];rfl)] at hg7; have HG7 := Lib.hid hg7; clear hg7)) | go_values | go_skip | go_guarded | go_step | go_upon))
    have hR := run_loadVar_mid (P := Tryd.prog) w7 (w.heap.size + 1) 0 73 r.cells _ (rangeAt_whole HG7.out) hu73 rfl HIR.out
    have HR2 := Lib.hid hR; clear hR
    exact bodyPost_ret (results_cell rfl _ _ _ ⟨w.heap.size + 1, 0, none⟩ rfl _ HR2.out) rfl ⟨rfl, hB05.grown hG7 hB05.size (fun k e => by cases e; omega)⟩
  · go_simp
    go_at_call 102
    refine (chainHead a xs.length c xs P _ HP.out (HRX.out.below hB2d (Nat.le_refl _)) HOK.out rfl hn).mono ?_
    rintro _ wA ⟨rfl, hBA⟩
    dsimp only
    have hBc : Below w2.heap.size w2 wA := (Below.refl _ _).drew.trans hBA
    refine hK.out _ _ ?_ (fun hHeld => ?_)
    · (exact rowF hBc)
    clear hK K
    try simp only [Act.put, List.setIfInBounds_toArray, List.set_cons_zero, List.set_cons_succ]
    refine wpAnyH_ready (rs := [2]) (by kernel_rfl) (by simp) ?_
    refine AllReadyH.cons (o := _) rfl (fun K hK => ?_) ?_
    rotate_left 1
    · exact AllReadyH.nil
    refine step_load_mid rfl 73 _ rfl w.heap.size 0 rfl y.cells _ (rangeAt_below hr2d hBA (Nat.le_refl _)) hu73 rfl hiY ?_
    refine hK.out _ _ ?_ (fun hHeld => ?_)
    · (exact rowF hBc)
    clear hK K
    try simp only [Act.put, List.setIfInBounds_toArray, List.set_cons_zero, List.set_cons_succ]
    clear hBA
    have hB0c := hB2.trans (hBc.mono hB2.size)
    refine wpAnyH_ready (rs := [3]) (by kernel_rfl) (by simp) ?_
    refine AllReadyH.cons (o := _) rfl (fun K hK => ?_) ?_
    rotate_left 1
    · exact AllReadyH.nil
    go_simp
    go_at_call 61
    refine (auditNext P D y _ HD.out (HT.out.below hB0c hts) HPL.out HYO.out hys.1 hys.2).mono ?_
    rintro _ wB ⟨rfl, hBB⟩
    dsimp only
    have hB2B := hBc.trans (hBB.mono hBc.size)
    refine hK.out _ _ ?_ (fun hHeld => ?_)
    · (exact rowF hB2B)
    clear hK K
    try simp only [Act.put, List.setIfInBounds_toArray, List.set_cons_zero, List.set_cons_succ]
    refine wpAnyH_take (i := 4) (oi := _) (v := ?_) rfl (by kernel_rfl) (by kernel_rfl) (by kernel_rfl) (fun _ _ _ h => h) (Or.inl ⟨by rfl, ?_⟩) (by assumption) ?_
    rotate_left 1
    · (intro w hSw; (try dsimp only at hSw); go_simp; all_goals (with_reducible rfl))
    try simp only [Act.put, List.setIfInBounds_toArray, List.set_cons_zero, List.set_cons_succ]
    have hg4 := (hB2B.block w.heap.size (by rw [HS2.out]; omega)).trans HQ2.out
    refine wpAnyH_ready (rs := [5]) (by kernel_rfl) (by simp) ?_
    refine AllReadyH.cons (o := _) rfl (fun K hK => ?_) ?_
    rotate_left 1
    · exact AllReadyH.nil
    refine step_store_blk rfl _ _ _ rfl w.heap.size 7 (bvs D) rfl rfl _ _ hg4 HFD.out HID.out HDO.out ?_
    intro w5 hg5 hG5
    rw [List.toList_toArray, HSP.out] at hg5
    refine hK.out _ _ ?_ (fun hHeld => ?_)
    · (exact rowG hB2B hG5)
    clear hK K
    try simp only [Act.put, List.setIfInBounds_toArray, List.set_cons_zero, List.set_cons_succ]
    refine wpAnyH_done (by kernel_rfl) ?_ _
    refine NoPanic.normal ?_
    have hB02 := hB2.trans (hB2B.mono hB2.size)
    have hB05 : Below w.heap.size w w5 := hB02.grown hG5 hB02.size (fun k e => by cases e; exact Nat.le_refl _)
    have hg6 := (hG5.block (w.heap.size + 1) (by have := hB2B.size; rw [HS2.out] at this; omega) (by simp)).trans ((hB2B.block (w.heap.size + 1) (by rw [HS2.out]; omega)).trans HQ3.out)
    have HG5 := Lib.hid (rangeAt_whole hg5)
    have HG6 := Lib.hid hg6
    clear hg5 hg6 hg4 hHeld hB02 hB2B hBB hB0c hBc
    (repeat' ((fail_if_success at_builtin); first | (first | (with_reducible refine wpList_load_mid rfl 73 _ rfl w.heap.size 0 rfl r.cells _ HG5.out hu73 rfl HIR.out ?_) | ((with_reducible refine wpList_store_blk rfl 73 _ _ rfl (w.heap.size + 1) 0 r.cells rfl rfl _ _ HG6.out HFR.out HIR.out HRO.out ?_); intro w7 hg7 hG7; rw [splice_whole _ _ (by rw [HRC.out];rfl)] at hg7; have HG7 := Lib.hid hg7; clear hg7)) | go_values | go_skip | go_guarded | go_step | go_upon))
    have hR := run_loadVar_mid (P := Tryd.prog) w7 (w.heap.size + 1) 0 73 r.cells _ (rangeAt_whole HG7.out) hu73 rfl HIR.out
    have HR2 := Lib.hid hR; clear hR
    exact bodyPost_ret (results_cell rfl _ _ _ ⟨w.heap.size + 1, 0, none⟩ rfl _ HR2.out) rfl ⟨rfl, hB05.grown hG7 hB05.size (fun k e => by cases e; omega)⟩

end Go.Proofs.YtdpfemhfmofmlaaDoor
