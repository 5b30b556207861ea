/- A row, one thing of which is turned. -/
import Derived.Test.YtdpfemhfmofmlaaDoorHolds21
namespace Go.Proofs.YtdpfemhfmofmlaaDoor
set_option linter.unusedSimpArgs false
set_option linter.unusedVariables false
open Go.RowKit
set_option maxRecDepth 10000
--@PUT2

theorem and31 (how : Int) : ∃ k : Nat, bits .and .i64 how 31 = (k : Int) ∧ k < 32 := by
  refine ⟨(BitVec.ofInt 64 how &&& 31#64).toNat, ?_, ?_⟩
  · show IntKind.i64.wrap ((BitVec.ofInt 64 how &&& BitVec.ofInt 64 31).toNat : Int) = _
    have e : BitVec.ofInt 64 31 = 31#64 := by decide
    rw [e, IntKind.wrap_i64]
    have h : (BitVec.ofInt 64 how &&& 31#64).toNat ≤ 31 := by rw [BitVec.toNat_and]; exact Nat.and_le_right
    omega
  · have h : (BitVec.ofInt 64 how &&& 31#64).toNat ≤ 31 := by rw [BitVec.toNat_and]; exact Nat.and_le_right
    omega
theorem ent_sum_cell {w : World} {z : Nat} {x : Ent} {t : TypeId} {fr : Nat × Nat} (h : w.heap[z]? = some (.cells x.cells.toArray t fr)) (k : Nat) (hk : k < x.sum.length) : w.cell? ⟨z, 7 + k, none⟩ = some (.int .u8 (x.sum[k].toNat : Int)) := by
  have h1 := ent_sum (rangeAt_whole h)
  have h2 := h1 k (.int .u8 (x.sum[k].toNat : Int)) (by unfold bvs; rw [List.getElem?_map, List.getElem?_eq_getElem hk]; rfl)
  rw [Nat.zero_add] at h2
  exact h2
theorem ent_set_at (x : Ent) (k : Nat) (hk : k < x.sum.length) {b : UInt8} : x.cells.set (7 + k) (.int .u8 (b.toNat : Int)) = ({ x with sum := x.sum.set k b } : Ent).cells := by
  unfold Ent.cells Ent.front
  rw [List.set_append_right _ _ (by simp)]
  simp [bvs, List.map_set]
  rfl

set_option maxHeartbeats 8000000 in
theorem turned21 (x : Ent) (how : Int) (w : World) (hx : x.Ok) (h5 : x.stream.size ≤ 512) (h6 : x.subject.size ≤ 512) (hh : I64 how) :
    Calls Tryd.prog 65 #[.agg x.cells.toArray, .int .i64 how] w fun e w' => ∃ y : Ent, e = .returned (.agg y.cells.toArray) ∧ y.Fit ∧ Below w.heap.size w w' := by
  obtain ⟨iE, zE, hiE, hzE, hsE, hbE, hcE⟩ := entInfo_parts
  have HIE := Lib.hid hiE; clear hiE
  have HZE := Lib.hid hzE; clear hzE
  have HCE := Lib.hid hcE; clear hcE
  clear hsE hbE
  have HX := Lib.hid hx; clear hx
  have h5' : x.stream.size ≤ 4096 := by omega
  have h6' : x.subject.size ≤ 4096 := by omega
  have hu73 : Tryd.prog.underlying 73 = some _ := Tryd.underlying73
  have b1 := pick_lt how 9 (by omega)
  obtain ⟨p1, hp1⟩ : ∃ p, pick how 9 = p := ⟨_, rfl⟩
  rw [hp1] at b1
  have HP1 := Lib.hid hp1; clear hp1
  have HG0 := Lib.hid (heap_alloc_new w (.cells x.cells.toArray 73))
  go_enter Tryd.func65, Tryd.ntmps65
  (repeat' ((fail_if_success at_builtin); first | (((with_reducible refine wpList_alloc_fresh (w := w.alloc (.cells x.cells.toArray 73)) rfl 73 rfl _ iE zE HIE.out HZE.out HCE.out ?_); intro w1 hg1 hB1 hs1; have HG1 := Lib.hid hg1; clear hg1; have HS1 := Lib.hid hs1; clear hs1)) | go_values | go_skip | go_guarded | go_step | go_upon))
  have hsa : (w.alloc (.cells x.cells.toArray 73)).heap.size = w.heap.size + 1 := by simp
  refine (pickAny how 9 w1 hh (by omega)).mono ?_
  rintro _ w1' ⟨rfl, rfl⟩
  dsimp only
  rw [HP1.out]
  have hs1 := HS1.out
  have hq1 := HG1.out
  rw [hsa] at hs1 hq1
  try rw [hsa]
  have hB01 : Below w.heap.size w w1 := (show Below w.heap.size w (w.alloc (.cells x.cells.toArray 73)) from (Below.refl _ _).alloc (Nat.le_refl _) _).trans (hB1.mono (by omega))
  have hg1 := (hB1.block w.heap.size (by omega)).trans HG0.out
  obtain ⟨z, hz⟩ : ∃ z, w.heap.size = z := ⟨_, rfl⟩
  obtain ⟨q, hq⟩ : ∃ q, w.heap.size + 1 = q := ⟨_, rfl⟩
  rw [hq] at hq1
  try rw [hq]
  rw [hz] at hg1
  try rw [hz]
  clear HG0 HG1 HS1 hsa hB1 hs1
  have hqz : z < q := by omega
  have hwz : w.heap.size ≤ z := by omega
  clear hz hq
  have HG1 := Lib.hid hg1
  have HQ1 := Lib.hid hq1
  have f0 := frozen_of_row w1 z 0 _ _ hg1
  have f1 := frozen_of_row w1 z 1 _ _ hg1
  have f2 := frozen_of_row w1 z 2 _ _ hg1
  have f3 := frozen_of_row w1 z 3 _ _ hg1
  have f4 := frozen_of_row w1 z 4 _ _ hg1
  have f5 := frozen_of_row w1 z 5 _ _ hg1
  have f6 := frozen_of_row w1 z 6 _ _ hg1
  obtain ⟨c0, c1, c2, c3, c4, c5, c6⟩ := ent_cell (rangeAt_whole hg1)
  simp only [Nat.zero_add] at c1 c2 c3 c4 c5 c6
  clear hg1 hq1
  have hp : p1 = 0 ∨ p1 = 1 ∨ p1 = 2 ∨ p1 = 3 ∨ p1 = 4 ∨ p1 = 5 ∨ p1 = 6 ∨ p1 = 7 ∨ p1 = 8 := by omega
  clear b1
  rcases hp with rfl | rfl | rfl | rfl | rfl | rfl | rfl | rfl | rfl
  · obtain ⟨v, hv⟩ : ∃ v, Go.RowKit.wrap64 (x.no + 1) = v := ⟨_, rfl⟩
    have hvb : I64 v := by rw [← hv]; unfold I64 Go.RowKit.wrap64; omega
    have HV := Lib.hid hv; clear hv
    (repeat' ((fail_if_success at_builtin); (fail_if_success (show wpList _ _ _ ({ dst := some 65, op := _, type := _, pos := _, after := _, guard := _ } :: _) _ _)); first | (fail) | go_values | go_skip | go_guarded | go_step | go_upon))
    rw [HV.out]
    obtain ⟨w2, hw2⟩ : ∃ w2, w1.setCell ⟨z, 0, none⟩ (.int .i64 v) = w2 := ⟨_, rfl⟩
    rw [hw2]
    have hB2 : Below w.heap.size w w2 := by rw [← hw2]; refine hB01.setCell ?_ _; exact hwz
    have hq2 : w2.heap[q]? = some (.cells zEnt.cells.toArray 73 (0, 0)) := by
      rw [← hw2]; exact (Below.heap_setCell _ _ _ _ (by show q ≠ z; omega)).trans HQ1.out
    obtain ⟨y, hy⟩ : ∃ y : Ent, { x with no := v } = y := ⟨_, rfl⟩
    have hyf : y.Fit := by rw [← hy]; exact ⟨⟨hvb, HX.out.clock, HX.out.kind, HX.out.code, HX.out.id, HX.out.stream, HX.out.subject, HX.out.sum⟩, h5', h6'⟩
    have hg2 : w2.heap[z]? = some (.cells y.cells.toArray 73 (0, 0)) := by rw [← hw2, row_set HG1.out, List.setIfInBounds_toArray, ← hy]; rfl
    clear hw2 hy hvb
    have HQ2 := Lib.hid hq2
    have hyl : y.cells.length = 39 := Ent.cells_length hyf.ok.sum
    have HIY := Lib.hid (show (Tryd.prog.info? 73).map (·.size) = some y.cells.length by rw [hyl]; exact entSize)
    have HFY := Lib.hid (show 0 + y.cells.length ≤ zEnt.cells.toArray.size by rw [hyl]; exact Nat.le_refl _)
    have HOY := Lib.hid y.cells_oneCell
    have HLY := Lib.hid (show y.cells.length = zEnt.cells.toArray.toList.length by rw [hyl]; rfl)
    have HR2 := Lib.hid (rangeAt_whole hg2)
    have HYF := Lib.hid hyf
    clear hq2 hyl hg2 hyf
    (repeat' ((fail_if_success at_builtin); first | (first | (with_reducible refine wpList_load_mid rfl 73 _ rfl z 0 rfl y.cells _ HR2.out hu73 rfl HIY.out ?_) | ((with_reducible refine wpList_store_blk rfl 73 _ _ rfl q 0 y.cells rfl rfl _ _ HQ2.out HFY.out HIY.out HOY.out ?_); intro w3 hg3 hG3; rw [splice_whole _ _ HLY.out] at hg3; have HG3 := Lib.hid hg3; clear hg3)) | go_values | go_skip | go_guarded | go_step | go_upon))
    have hR := run_loadVar_mid (P := Tryd.prog) w3 q 0 73 y.cells _ (rangeAt_whole HG3.out) hu73 rfl HIY.out
    have HR4 := Lib.hid hR; clear hR
    exact bodyPost_ret (results_cell rfl _ _ _ ⟨q, 0, none⟩ rfl _ HR4.out) rfl ⟨y, rfl, HYF.out, hB2.grown hG3 hB2.size (fun k e => by cases e; omega)⟩
  · obtain ⟨v, hv⟩ : ∃ v, Go.RowKit.wrap64 (x.clock + 1) = v := ⟨_, rfl⟩
    have hvb : I64 v := by rw [← hv]; unfold I64 Go.RowKit.wrap64; omega
    have HV := Lib.hid hv; clear hv
    (repeat' ((fail_if_success at_builtin); (fail_if_success (show wpList _ _ _ ({ dst := some 65, op := _, type := _, pos := _, after := _, guard := _ } :: _) _ _)); first | (fail) | go_values | go_skip | go_guarded | go_step | go_upon))
    rw [HV.out]
    obtain ⟨w2, hw2⟩ : ∃ w2, w1.setCell ⟨z, 1, none⟩ (.int .i64 v) = w2 := ⟨_, rfl⟩
    rw [hw2]
    have hB2 : Below w.heap.size w w2 := by rw [← hw2]; refine hB01.setCell ?_ _; exact hwz
    have hq2 : w2.heap[q]? = some (.cells zEnt.cells.toArray 73 (0, 0)) := by
      rw [← hw2]; exact (Below.heap_setCell _ _ _ _ (by show q ≠ z; omega)).trans HQ1.out
    obtain ⟨y, hy⟩ : ∃ y : Ent, { x with clock := v } = y := ⟨_, rfl⟩
    have hyf : y.Fit := by rw [← hy]; exact ⟨⟨HX.out.no, hvb, HX.out.kind, HX.out.code, HX.out.id, HX.out.stream, HX.out.subject, HX.out.sum⟩, h5', h6'⟩
    have hg2 : w2.heap[z]? = some (.cells y.cells.toArray 73 (0, 0)) := by rw [← hw2, row_set HG1.out, List.setIfInBounds_toArray, ← hy]; rfl
    clear hw2 hy hvb
    have HQ2 := Lib.hid hq2
    have hyl : y.cells.length = 39 := Ent.cells_length hyf.ok.sum
    have HIY := Lib.hid (show (Tryd.prog.info? 73).map (·.size) = some y.cells.length by rw [hyl]; exact entSize)
    have HFY := Lib.hid (show 0 + y.cells.length ≤ zEnt.cells.toArray.size by rw [hyl]; exact Nat.le_refl _)
    have HOY := Lib.hid y.cells_oneCell
    have HLY := Lib.hid (show y.cells.length = zEnt.cells.toArray.toList.length by rw [hyl]; rfl)
    have HR2 := Lib.hid (rangeAt_whole hg2)
    have HYF := Lib.hid hyf
    clear hq2 hyl hg2 hyf
    (repeat' ((fail_if_success at_builtin); first | (first | (with_reducible refine wpList_load_mid rfl 73 _ rfl z 0 rfl y.cells _ HR2.out hu73 rfl HIY.out ?_) | ((with_reducible refine wpList_store_blk rfl 73 _ _ rfl q 0 y.cells rfl rfl _ _ HQ2.out HFY.out HIY.out HOY.out ?_); intro w3 hg3 hG3; rw [splice_whole _ _ HLY.out] at hg3; have HG3 := Lib.hid hg3; clear hg3)) | go_values | go_skip | go_guarded | go_step | go_upon))
    have hR := run_loadVar_mid (P := Tryd.prog) w3 q 0 73 y.cells _ (rangeAt_whole HG3.out) hu73 rfl HIY.out
    have HR4 := Lib.hid hR; clear hR
    exact bodyPost_ret (results_cell rfl _ _ _ ⟨q, 0, none⟩ rfl _ HR4.out) rfl ⟨y, rfl, HYF.out, hB2.grown hG3 hB2.size (fun k e => by cases e; omega)⟩
  · obtain ⟨v, hv⟩ : ∃ v, Go.RowKit.wrap64 (Go.RowKit.wrap64 (-x.kind) - 1) = v := ⟨_, rfl⟩
    have hvb : I64 v := by rw [← hv]; unfold I64 Go.RowKit.wrap64; omega
    have HV := Lib.hid hv; clear hv
    (repeat' ((fail_if_success at_builtin); (fail_if_success (show wpList _ _ _ ({ dst := some 65, op := _, type := _, pos := _, after := _, guard := _ } :: _) _ _)); first | (fail) | go_values | go_skip | go_guarded | go_step | go_upon))
    rw [HV.out]
    obtain ⟨w2, hw2⟩ : ∃ w2, w1.setCell ⟨z, 2, none⟩ (.int .i64 v) = w2 := ⟨_, rfl⟩
    rw [hw2]
    have hB2 : Below w.heap.size w w2 := by rw [← hw2]; refine hB01.setCell ?_ _; exact hwz
    have hq2 : w2.heap[q]? = some (.cells zEnt.cells.toArray 73 (0, 0)) := by
      rw [← hw2]; exact (Below.heap_setCell _ _ _ _ (by show q ≠ z; omega)).trans HQ1.out
    obtain ⟨y, hy⟩ : ∃ y : Ent, { x with kind := v } = y := ⟨_, rfl⟩
    have hyf : y.Fit := by rw [← hy]; exact ⟨⟨HX.out.no, HX.out.clock, hvb, HX.out.code, HX.out.id, HX.out.stream, HX.out.subject, HX.out.sum⟩, h5', h6'⟩
    have hg2 : w2.heap[z]? = some (.cells y.cells.toArray 73 (0, 0)) := by rw [← hw2, row_set HG1.out, List.setIfInBounds_toArray, ← hy]; rfl
    clear hw2 hy hvb
    have HQ2 := Lib.hid hq2
    have hyl : y.cells.length = 39 := Ent.cells_length hyf.ok.sum
    have HIY := Lib.hid (show (Tryd.prog.info? 73).map (·.size) = some y.cells.length by rw [hyl]; exact entSize)
    have HFY := Lib.hid (show 0 + y.cells.length ≤ zEnt.cells.toArray.size by rw [hyl]; exact Nat.le_refl _)
    have HOY := Lib.hid y.cells_oneCell
    have HLY := Lib.hid (show y.cells.length = zEnt.cells.toArray.toList.length by rw [hyl]; rfl)
    have HR2 := Lib.hid (rangeAt_whole hg2)
    have HYF := Lib.hid hyf
    clear hq2 hyl hg2 hyf
    (repeat' ((fail_if_success at_builtin); first | (first | (with_reducible refine wpList_load_mid rfl 73 _ rfl z 0 rfl y.cells _ HR2.out hu73 rfl HIY.out ?_) | ((with_reducible refine wpList_store_blk rfl 73 _ _ rfl q 0 y.cells rfl rfl _ _ HQ2.out HFY.out HIY.out HOY.out ?_); intro w3 hg3 hG3; rw [splice_whole _ _ HLY.out] at hg3; have HG3 := Lib.hid hg3; clear hg3)) | go_values | go_skip | go_guarded | go_step | go_upon))
    have hR := run_loadVar_mid (P := Tryd.prog) w3 q 0 73 y.cells _ (rangeAt_whole HG3.out) hu73 rfl HIY.out
    have HR4 := Lib.hid hR; clear hR
    exact bodyPost_ret (results_cell rfl _ _ _ ⟨q, 0, none⟩ rfl _ HR4.out) rfl ⟨y, rfl, HYF.out, hB2.grown hG3 hB2.size (fun k e => by cases e; omega)⟩
  · obtain ⟨v, hv⟩ : ∃ v, Go.RowKit.wrap64 (x.code + 1) = v := ⟨_, rfl⟩
    have hvb : I64 v := by rw [← hv]; unfold I64 Go.RowKit.wrap64; omega
    have HV := Lib.hid hv; clear hv
    (repeat' ((fail_if_success at_builtin); (fail_if_success (show wpList _ _ _ ({ dst := some 65, op := _, type := _, pos := _, after := _, guard := _ } :: _) _ _)); first | (fail) | go_values | go_skip | go_guarded | go_step | go_upon))
    rw [HV.out]
    obtain ⟨w2, hw2⟩ : ∃ w2, w1.setCell ⟨z, 3, none⟩ (.int .i64 v) = w2 := ⟨_, rfl⟩
    rw [hw2]
    have hB2 : Below w.heap.size w w2 := by rw [← hw2]; refine hB01.setCell ?_ _; exact hwz
    have hq2 : w2.heap[q]? = some (.cells zEnt.cells.toArray 73 (0, 0)) := by
      rw [← hw2]; exact (Below.heap_setCell _ _ _ _ (by show q ≠ z; omega)).trans HQ1.out
    obtain ⟨y, hy⟩ : ∃ y : Ent, { x with code := v } = y := ⟨_, rfl⟩
    have hyf : y.Fit := by rw [← hy]; exact ⟨⟨HX.out.no, HX.out.clock, HX.out.kind, hvb, HX.out.id, HX.out.stream, HX.out.subject, HX.out.sum⟩, h5', h6'⟩
    have hg2 : w2.heap[z]? = some (.cells y.cells.toArray 73 (0, 0)) := by rw [← hw2, row_set HG1.out, List.setIfInBounds_toArray, ← hy]; rfl
    clear hw2 hy hvb
    have HQ2 := Lib.hid hq2
    have hyl : y.cells.length = 39 := Ent.cells_length hyf.ok.sum
    have HIY := Lib.hid (show (Tryd.prog.info? 73).map (·.size) = some y.cells.length by rw [hyl]; exact entSize)
    have HFY := Lib.hid (show 0 + y.cells.length ≤ zEnt.cells.toArray.size by rw [hyl]; exact Nat.le_refl _)
    have HOY := Lib.hid y.cells_oneCell
    have HLY := Lib.hid (show y.cells.length = zEnt.cells.toArray.toList.length by rw [hyl]; rfl)
    have HR2 := Lib.hid (rangeAt_whole hg2)
    have HYF := Lib.hid hyf
    clear hq2 hyl hg2 hyf
    (repeat' ((fail_if_success at_builtin); first | (first | (with_reducible refine wpList_load_mid rfl 73 _ rfl z 0 rfl y.cells _ HR2.out hu73 rfl HIY.out ?_) | ((with_reducible refine wpList_store_blk rfl 73 _ _ rfl q 0 y.cells rfl rfl _ _ HQ2.out HFY.out HIY.out HOY.out ?_); intro w3 hg3 hG3; rw [splice_whole _ _ HLY.out] at hg3; have HG3 := Lib.hid hg3; clear hg3)) | go_values | go_skip | go_guarded | go_step | go_upon))
    have hR := run_loadVar_mid (P := Tryd.prog) w3 q 0 73 y.cells _ (rangeAt_whole HG3.out) hu73 rfl HIY.out
    have HR4 := Lib.hid hR; clear hR
    exact bodyPost_ret (results_cell rfl _ _ _ ⟨q, 0, none⟩ rfl _ HR4.out) rfl ⟨y, rfl, HYF.out, hB2.grown hG3 hB2.size (fun k e => by cases e; omega)⟩
  · obtain ⟨v, hv⟩ : ∃ v, Go.RowKit.wrap64 (x.id + 1) = v := ⟨_, rfl⟩
    have hvb : I64 v := by rw [← hv]; unfold I64 Go.RowKit.wrap64; omega
    have HV := Lib.hid hv; clear hv
    (repeat' ((fail_if_success at_builtin); (fail_if_success (show wpList _ _ _ ({ dst := some 65, op := _, type := _, pos := _, after := _, guard := _ } :: _) _ _)); first | (fail) | go_values | go_skip | go_guarded | go_step | go_upon))
    rw [HV.out]
    obtain ⟨w2, hw2⟩ : ∃ w2, w1.setCell ⟨z, 4, none⟩ (.int .i64 v) = w2 := ⟨_, rfl⟩
    rw [hw2]
    have hB2 : Below w.heap.size w w2 := by rw [← hw2]; refine hB01.setCell ?_ _; exact hwz
    have hq2 : w2.heap[q]? = some (.cells zEnt.cells.toArray 73 (0, 0)) := by
      rw [← hw2]; exact (Below.heap_setCell _ _ _ _ (by show q ≠ z; omega)).trans HQ1.out
    obtain ⟨y, hy⟩ : ∃ y : Ent, { x with id := v } = y := ⟨_, rfl⟩
    have hyf : y.Fit := by rw [← hy]; exact ⟨⟨HX.out.no, HX.out.clock, HX.out.kind, HX.out.code, hvb, HX.out.stream, HX.out.subject, HX.out.sum⟩, h5', h6'⟩
    have hg2 : w2.heap[z]? = some (.cells y.cells.toArray 73 (0, 0)) := by rw [← hw2, row_set HG1.out, List.setIfInBounds_toArray, ← hy]; rfl
    clear hw2 hy hvb
    have HQ2 := Lib.hid hq2
    have hyl : y.cells.length = 39 := Ent.cells_length hyf.ok.sum
    have HIY := Lib.hid (show (Tryd.prog.info? 73).map (·.size) = some y.cells.length by rw [hyl]; exact entSize)
    have HFY := Lib.hid (show 0 + y.cells.length ≤ zEnt.cells.toArray.size by rw [hyl]; exact Nat.le_refl _)
    have HOY := Lib.hid y.cells_oneCell
    have HLY := Lib.hid (show y.cells.length = zEnt.cells.toArray.toList.length by rw [hyl]; rfl)
    have HR2 := Lib.hid (rangeAt_whole hg2)
    have HYF := Lib.hid hyf
    clear hq2 hyl hg2 hyf
    (repeat' ((fail_if_success at_builtin); first | (first | (with_reducible refine wpList_load_mid rfl 73 _ rfl z 0 rfl y.cells _ HR2.out hu73 rfl HIY.out ?_) | ((with_reducible refine wpList_store_blk rfl 73 _ _ rfl q 0 y.cells rfl rfl _ _ HQ2.out HFY.out HIY.out HOY.out ?_); intro w3 hg3 hG3; rw [splice_whole _ _ HLY.out] at hg3; have HG3 := Lib.hid hg3; clear hg3)) | go_values | go_skip | go_guarded | go_step | go_upon))
    have hR := run_loadVar_mid (P := Tryd.prog) w3 q 0 73 y.cells _ (rangeAt_whole HG3.out) hu73 rfl HIY.out
    have HR4 := Lib.hid hR; clear hR
    exact bodyPost_ret (results_cell rfl _ _ _ ⟨q, 0, none⟩ rfl _ HR4.out) rfl ⟨y, rfl, HYF.out, hB2.grown hG3 hB2.size (fun k e => by cases e; omega)⟩
  · obtain ⟨v, hv⟩ : ∃ v : ByteArray, x.stream ++ ⟨#[120]⟩ = v := ⟨_, rfl⟩
    have hvs : v.size ≤ 1025 := by rw [← hv]; simp [ByteArray.size_append]; show x.stream.size + 1 ≤ 1025; omega
    have HV := Lib.hid hv; clear hv
    (repeat' ((fail_if_success at_builtin); (fail_if_success (show wpList _ _ _ ({ dst := some 65, op := _, type := _, pos := _, after := _, guard := _ } :: _) _ _)); first | (fail) | go_values | go_skip | go_guarded | go_step | go_upon))
    rw [HV.out]
    obtain ⟨w2, hw2⟩ : ∃ w2, w1.setCell ⟨z, 5, none⟩ (.string v) = w2 := ⟨_, rfl⟩
    rw [hw2]
    have hB2 : Below w.heap.size w w2 := by rw [← hw2]; refine hB01.setCell ?_ _; exact hwz
    have hq2 : w2.heap[q]? = some (.cells zEnt.cells.toArray 73 (0, 0)) := by
      rw [← hw2]; exact (Below.heap_setCell _ _ _ _ (by show q ≠ z; omega)).trans HQ1.out
    obtain ⟨y, hy⟩ : ∃ y : Ent, { x with stream := v } = y := ⟨_, rfl⟩
    have hyf : y.Fit := by rw [← hy]; exact ⟨⟨HX.out.no, HX.out.clock, HX.out.kind, HX.out.code, HX.out.id, (by show v.size ≤ maxLen; unfold maxLen; omega), HX.out.subject, HX.out.sum⟩, (by show v.size ≤ 4096; omega), h6'⟩
    have hg2 : w2.heap[z]? = some (.cells y.cells.toArray 73 (0, 0)) := by rw [← hw2, row_set HG1.out, List.setIfInBounds_toArray, ← hy]; rfl
    clear hw2 hy hvs
    have HQ2 := Lib.hid hq2
    have hyl : y.cells.length = 39 := Ent.cells_length hyf.ok.sum
    have HIY := Lib.hid (show (Tryd.prog.info? 73).map (·.size) = some y.cells.length by rw [hyl]; exact entSize)
    have HFY := Lib.hid (show 0 + y.cells.length ≤ zEnt.cells.toArray.size by rw [hyl]; exact Nat.le_refl _)
    have HOY := Lib.hid y.cells_oneCell
    have HLY := Lib.hid (show y.cells.length = zEnt.cells.toArray.toList.length by rw [hyl]; rfl)
    have HR2 := Lib.hid (rangeAt_whole hg2)
    have HYF := Lib.hid hyf
    clear hq2 hyl hg2 hyf
    (repeat' ((fail_if_success at_builtin); first | (first | (with_reducible refine wpList_load_mid rfl 73 _ rfl z 0 rfl y.cells _ HR2.out hu73 rfl HIY.out ?_) | ((with_reducible refine wpList_store_blk rfl 73 _ _ rfl q 0 y.cells rfl rfl _ _ HQ2.out HFY.out HIY.out HOY.out ?_); intro w3 hg3 hG3; rw [splice_whole _ _ HLY.out] at hg3; have HG3 := Lib.hid hg3; clear hg3)) | go_values | go_skip | go_guarded | go_step | go_upon))
    have hR := run_loadVar_mid (P := Tryd.prog) w3 q 0 73 y.cells _ (rangeAt_whole HG3.out) hu73 rfl HIY.out
    have HR4 := Lib.hid hR; clear hR
    exact bodyPost_ret (results_cell rfl _ _ _ ⟨q, 0, none⟩ rfl _ HR4.out) rfl ⟨y, rfl, HYF.out, hB2.grown hG3 hB2.size (fun k e => by cases e; omega)⟩
  · obtain ⟨v, hv⟩ : ∃ v : ByteArray, x.stream ++ x.subject ++ ⟨#[121]⟩ = v := ⟨_, rfl⟩
    have hvs : v.size ≤ 1025 := by rw [← hv]; simp [ByteArray.size_append]; show x.stream.size + x.subject.size + 1 ≤ 1025; omega
    have HV := Lib.hid hv; clear hv
    (repeat' ((fail_if_success at_builtin); (fail_if_success (show wpList _ _ _ ({ dst := some 65, op := _, type := _, pos := _, after := _, guard := _ } :: _) _ _)); first | (fail) | go_values | go_skip | go_guarded | go_step | go_upon))
    rw [HV.out]
    obtain ⟨w2, hw2⟩ : ∃ w2, w1.setCell ⟨z, 6, none⟩ (.string v) = w2 := ⟨_, rfl⟩
    rw [hw2]
    have hB2 : Below w.heap.size w w2 := by rw [← hw2]; refine hB01.setCell ?_ _; exact hwz
    have hq2 : w2.heap[q]? = some (.cells zEnt.cells.toArray 73 (0, 0)) := by
      rw [← hw2]; exact (Below.heap_setCell _ _ _ _ (by show q ≠ z; omega)).trans HQ1.out
    obtain ⟨y, hy⟩ : ∃ y : Ent, { x with subject := v } = y := ⟨_, rfl⟩
    have hyf : y.Fit := by rw [← hy]; exact ⟨⟨HX.out.no, HX.out.clock, HX.out.kind, HX.out.code, HX.out.id, HX.out.stream, (by show v.size ≤ maxLen; unfold maxLen; omega), HX.out.sum⟩, h5', (by show v.size ≤ 4096; omega)⟩
    have hg2 : w2.heap[z]? = some (.cells y.cells.toArray 73 (0, 0)) := by rw [← hw2, row_set HG1.out, List.setIfInBounds_toArray, ← hy]; rfl
    clear hw2 hy hvs
    have HQ2 := Lib.hid hq2
    have hyl : y.cells.length = 39 := Ent.cells_length hyf.ok.sum
    have HIY := Lib.hid (show (Tryd.prog.info? 73).map (·.size) = some y.cells.length by rw [hyl]; exact entSize)
    have HFY := Lib.hid (show 0 + y.cells.length ≤ zEnt.cells.toArray.size by rw [hyl]; exact Nat.le_refl _)
    have HOY := Lib.hid y.cells_oneCell
    have HLY := Lib.hid (show y.cells.length = zEnt.cells.toArray.toList.length by rw [hyl]; rfl)
    have HR2 := Lib.hid (rangeAt_whole hg2)
    have HYF := Lib.hid hyf
    clear hq2 hyl hg2 hyf
    (repeat' ((fail_if_success at_builtin); first | (first | (with_reducible refine wpList_load_mid rfl 73 _ rfl z 0 rfl y.cells _ HR2.out hu73 rfl HIY.out ?_) | ((with_reducible refine wpList_store_blk rfl 73 _ _ rfl q 0 y.cells rfl rfl _ _ HQ2.out HFY.out HIY.out HOY.out ?_); intro w3 hg3 hG3; rw [splice_whole _ _ HLY.out] at hg3; have HG3 := Lib.hid hg3; clear hg3)) | go_values | go_skip | go_guarded | go_step | go_upon))
    have hR := run_loadVar_mid (P := Tryd.prog) w3 q 0 73 y.cells _ (rangeAt_whole HG3.out) hu73 rfl HIY.out
    have HR4 := Lib.hid hR; clear hR
    exact bodyPost_ret (results_cell rfl _ _ _ ⟨q, 0, none⟩ rfl _ HR4.out) rfl ⟨y, rfl, HYF.out, hB2.grown hG3 hB2.size (fun k e => by cases e; omega)⟩
  · obtain ⟨k, hk, hkl⟩ := and31 how
    have hks : k < x.sum.length := by rw [HX.out.sum]; omega
    obtain ⟨b, hb⟩ : ∃ b, x.sum[k] = b := ⟨_, rfl⟩
    have ck : w1.cell? ⟨z, 7 + k, none⟩ = some (.int .u8 (b.toNat : Int)) := by
      rw [← hb]; exact ent_sum_cell HG1.out k hks
    have hx1 := xor_one b
    have f7 := frozen_of_row w1 z (7 + k) _ _ HG1.out
    have bk : (0 : Int) ≤ (k : Int) ∧ (k : Int) < 32 := by omega
    have HB := Lib.hid hb; clear hb
    (repeat' ((fail_if_success at_builtin); (fail_if_success (show wpList _ _ _ ({ dst := some 65, op := _, type := _, pos := _, after := _, guard := _ } :: _) _ _)); first | (fail) | go_values | go_skip | go_guarded | go_step | go_upon))
    obtain ⟨w2, hw2⟩ : ∃ w2, w1.setCell ⟨z, 7 + k, none⟩ (.int .u8 ((xor1 b).toNat : Int)) = w2 := ⟨_, rfl⟩
    rw [hw2]
    have hB2 : Below w.heap.size w w2 := by rw [← hw2]; refine hB01.setCell ?_ _; exact hwz
    have hq2 : w2.heap[q]? = some (.cells zEnt.cells.toArray 73 (0, 0)) := by
      rw [← hw2]; exact (Below.heap_setCell _ _ _ _ (by show q ≠ z; omega)).trans HQ1.out
    obtain ⟨y, hy⟩ : ∃ y : Ent, { x with sum := x.sum.set k (xor1 b) } = y := ⟨_, rfl⟩
    have hyf : y.Fit := by rw [← hy]; exact ⟨⟨HX.out.no, HX.out.clock, HX.out.kind, HX.out.code, HX.out.id, HX.out.stream, HX.out.subject, (by rw [List.length_set]; exact HX.out.sum)⟩, h5', h6'⟩
    have hg2 : w2.heap[z]? = some (.cells y.cells.toArray 73 (0, 0)) := by rw [← hw2, row_set HG1.out, List.setIfInBounds_toArray, ← hy, ent_set_at x k hks]
    clear hw2 hy ck hx1 bk hk
    have HQ2 := Lib.hid hq2
    have hyl : y.cells.length = 39 := Ent.cells_length hyf.ok.sum
    have HIY := Lib.hid (show (Tryd.prog.info? 73).map (·.size) = some y.cells.length by rw [hyl]; exact entSize)
    have HFY := Lib.hid (show 0 + y.cells.length ≤ zEnt.cells.toArray.size by rw [hyl]; exact Nat.le_refl _)
    have HOY := Lib.hid y.cells_oneCell
    have HLY := Lib.hid (show y.cells.length = zEnt.cells.toArray.toList.length by rw [hyl]; rfl)
    have HR2 := Lib.hid (rangeAt_whole hg2)
    have HYF := Lib.hid hyf
    clear hq2 hyl hg2 hyf
    (repeat' ((fail_if_success at_builtin); first | (first | (with_reducible refine wpList_load_mid rfl 73 _ rfl z 0 rfl y.cells _ HR2.out hu73 rfl HIY.out ?_) | ((with_reducible refine wpList_store_blk rfl 73 _ _ rfl q 0 y.cells rfl rfl _ _ HQ2.out HFY.out HIY.out HOY.out ?_); intro w3 hg3 hG3; rw [splice_whole _ _ HLY.out] at hg3; have HG3 := Lib.hid hg3; clear hg3)) | go_values | go_skip | go_guarded | go_step | go_upon))
    have hR := run_loadVar_mid (P := Tryd.prog) w3 q 0 73 y.cells _ (rangeAt_whole HG3.out) hu73 rfl HIY.out
    have HR4 := Lib.hid hR; clear hR
    exact bodyPost_ret (results_cell rfl _ _ _ ⟨q, 0, none⟩ rfl _ HR4.out) rfl ⟨y, rfl, HYF.out, hB2.grown hG3 hB2.size (fun k e => by cases e; omega)⟩
  · (repeat' ((fail_if_success at_builtin); (fail_if_success (show wpList _ _ _ ({ dst := some 65, op := _, type := _, pos := _, after := _, guard := _ } :: _) _ _)); first | (fail) | go_values | go_skip | go_guarded | go_step | go_upon))
    obtain ⟨w2, hw2⟩ : ∃ w2, w1 = w2 := ⟨_, rfl⟩
    rw [hw2]
    have hB2 : Below w.heap.size w w2 := by rw [← hw2]; exact hB01
    have hq2 : w2.heap[q]? = some (.cells zEnt.cells.toArray 73 (0, 0)) := by rw [← hw2]; exact HQ1.out
    obtain ⟨y, hy⟩ : ∃ y : Ent, x = y := ⟨_, rfl⟩
    have hyf : y.Fit := by rw [← hy]; exact ⟨HX.out, h5', h6'⟩
    have hg2 : w2.heap[z]? = some (.cells y.cells.toArray 73 (0, 0)) := by rw [← hw2, ← hy]; exact HG1.out
    clear hw2 hy
    have HQ2 := Lib.hid hq2
    have hyl : y.cells.length = 39 := Ent.cells_length hyf.ok.sum
    have HIY := Lib.hid (show (Tryd.prog.info? 73).map (·.size) = some y.cells.length by rw [hyl]; exact entSize)
    have HFY := Lib.hid (show 0 + y.cells.length ≤ zEnt.cells.toArray.size by rw [hyl]; exact Nat.le_refl _)
    have HOY := Lib.hid y.cells_oneCell
    have HLY := Lib.hid (show y.cells.length = zEnt.cells.toArray.toList.length by rw [hyl]; rfl)
    have HR2 := Lib.hid (rangeAt_whole hg2)
    have HYF := Lib.hid hyf
    clear hq2 hyl hg2 hyf
    (repeat' ((fail_if_success at_builtin); first | (first | (with_reducible refine wpList_load_mid rfl 73 _ rfl z 0 rfl y.cells _ HR2.out hu73 rfl HIY.out ?_) | ((with_reducible refine wpList_store_blk rfl 73 _ _ rfl q 0 y.cells rfl rfl _ _ HQ2.out HFY.out HIY.out HOY.out ?_); intro w3 hg3 hG3; rw [splice_whole _ _ HLY.out] at hg3; have HG3 := Lib.hid hg3; clear hg3)) | go_values | go_skip | go_guarded | go_step | go_upon))
    have hR := run_loadVar_mid (P := Tryd.prog) w3 q 0 73 y.cells _ (rangeAt_whole HG3.out) hu73 rfl HIY.out
    have HR4 := Lib.hid hR; clear hR
    exact bodyPost_ret (results_cell rfl _ _ _ ⟨q, 0, none⟩ rfl _ HR4.out) rfl ⟨y, rfl, HYF.out, hB2.grown hG3 hB2.size (fun k e => by cases e; omega)⟩

end Go.Proofs.YtdpfemhfmofmlaaDoor
