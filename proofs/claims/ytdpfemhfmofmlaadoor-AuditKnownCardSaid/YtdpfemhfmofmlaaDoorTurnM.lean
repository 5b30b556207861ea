/- A row, one thing of which is turned. -/
import Derived.Test.YtdpfemhfmofmlaaDoorHolM
import Derived.Test.YtdpfemhfmofmlaaDoorRAddW
import Derived.Test.YtdpfemhfmofmlaaDoorKitF
namespace Go.Proofs.YtdpfemhfmofmlaaDoor
set_option linter.unusedSimpArgs false
set_option linter.unusedVariables false
open Go.RowKit
set_option maxRecDepth 10000
--@PUT2

theorem and31 (how : Int) : ∃ k : Nat, bits .and .i64 how 31 = (k : Int) ∧ k < 32 := by
  refine ⟨(BitVec.ofInt 64 how &&& 31#64).toNat, ?_, ?_⟩
  · show IntKind.i64.wrap ((BitVec.ofInt 64 how &&& BitVec.ofInt 64 31).toNat : Int) = _
    have e : BitVec.ofInt 64 31 = 31#64 := by decide
    rw [e, IntKind.wrap_i64]
    have h : (BitVec.ofInt 64 how &&& 31#64).toNat ≤ 31 := by rw [BitVec.toNat_and]; exact Nat.and_le_right
    omega
  · have h : (BitVec.ofInt 64 how &&& 31#64).toNat ≤ 31 := by rw [BitVec.toNat_and]; exact Nat.and_le_right
    omega
theorem ent_sum_cell {w : World} {z : Nat} {x : Ent} {t : TypeId} {fr : Nat × Nat} (h : w.heap[z]? = some (.cells x.cells.toArray t fr)) (k : Nat) (hk : k < x.sum.length) : w.cell? ⟨z, 7 + k, none⟩ = some (.int .u8 (x.sum[k].toNat : Int)) := by
  have h1 := ent_sum (rangeAt_whole h)
  have h2 := h1 k (.int .u8 (x.sum[k].toNat : Int)) (by unfold bvs; rw [List.getElem?_map, List.getElem?_eq_getElem hk]; rfl)
  rw [Nat.zero_add] at h2
  exact h2
theorem ent_set_at (x : Ent) (k : Nat) (hk : k < x.sum.length) {b : UInt8} : x.cells.set (7 + k) (.int .u8 (b.toNat : Int)) = ({ x with sum := x.sum.set k b } : Ent).cells := by
  unfold Ent.cells Ent.front
  rw [List.set_append_right _ _ (by simp)]
  simp [bvs, List.map_set]
  rfl

set_option maxHeartbeats 8000000 in
theorem turned21 (x : Ent) (how : Int) (w : World) (hx : x.Ok) (h5 : x.stream.size ≤ 512) (h6 : x.subject.size ≤ 512) (hh : I64 how) :
    Calls Tryd.prog 65 #[.agg x.cells.toArray, .int .i64 how] w fun e w' => ∃ y : Ent, e = .returned (.agg y.cells.toArray) ∧ y.Fit ∧ Below w.heap.size w w' := by
  obtain ⟨iE, zE, hiE, hzE, hsE, hbE, hcE⟩ := entInfo_parts
  have HIE := Lib.hid hiE; clear hiE
  have HZE := Lib.hid hzE; clear hzE
  have HCE := Lib.hid hcE; clear hcE
  clear hsE hbE
  have HX := Lib.hid hx; clear hx
  have h5' : x.stream.size ≤ 4096 := by omega
  have h6' : x.subject.size ≤ 4096 := by omega
  have hu73 : Tryd.prog.underlying 73 = some _ := Tryd.underlying73
  have b1 := pick_lt how 9 (by omega)
  obtain ⟨p1, hp1⟩ : ∃ p, pick how 9 = p := ⟨_, rfl⟩
  rw [hp1] at b1
  have HP1 := Lib.hid hp1; clear hp1
  have HG0 := Lib.hid (heap_alloc_new w (.cells x.cells.toArray 73))
  go_enter Tryd.func65, Tryd.ntmps65
  (repeat' ((fail_if_success at_builtin); first | (((with_reducible refine wpList_alloc_fresh (w := w.alloc (.cells x.cells.toArray 73)) rfl 73 rfl _ iE zE HIE.out HZE.out HCE.out ?_); intro w1 hg1 hB1 hs1; have HG1 := Lib.hid hg1; clear hg1; have HS1 := Lib.hid hs1; clear hs1)) | go_values | go_skip | go_guarded | go_step | go_upon))
  have hsa : (w.alloc (.cells x.cells.toArray 73)).heap.size = w.heap.size + 1 := by simp
  refine (pickAny how 9 w1 hh (by omega)).mono ?_
  rintro _ w1' ⟨rfl, rfl⟩
  dsimp only
  rw [HP1.out]
  have hs1 := HS1.out
  have hq1 := HG1.out
  rw [hsa] at hs1 hq1
  try rw [hsa]
  have hB01 : Below w.heap.size w w1 := (show Below w.heap.size w (w.alloc (.cells x.cells.toArray 73)) from (Below.refl _ _).alloc (Nat.le_refl _) _).trans (hB1.mono (by omega))
  have hg1 := (hB1.block w.heap.size (by omega)).trans HG0.out
  obtain ⟨z, hz⟩ : ∃ z, w.heap.size = z := ⟨_, rfl⟩
  obtain ⟨q, hq⟩ : ∃ q, w.heap.size + 1 = q := ⟨_, rfl⟩
  rw [hq] at hq1
  try rw [hq]
  rw [hz] at hg1
  try rw [hz]
  clear HG0 HG1 HS1 hsa hB1 hs1
  have hqz : z < q := by omega
  have hwz : w.heap.size ≤ z := by omega
  clear hz hq
  have HG1 := Lib.hid hg1
  have HQ1 := Lib.hid hq1
  have f0 := frozen_of_row w1 z 0 _ _ hg1
  have f1 := frozen_of_row w1 z 1 _ _ hg1
  have f2 := frozen_of_row w1 z 2 _ _ hg1
  have f3 := frozen_of_row w1 z 3 _ _ hg1
  have f4 := frozen_of_row w1 z 4 _ _ hg1
  have f5 := frozen_of_row w1 z 5 _ _ hg1
  have f6 := frozen_of_row w1 z 6 _ _ hg1
  obtain ⟨c0, c1, c2, c3, c4, c5, c6⟩ := ent_cell (rangeAt_whole hg1)
  simp only [Nat.zero_add] at c1 c2 c3 c4 c5 c6
  clear hg1 hq1
  have hp : p1 = 0 ∨ p1 = 1 ∨ p1 = 2 ∨ p1 = 3 ∨ p1 = 4 ∨ p1 = 5 ∨ p1 = 6 ∨ p1 = 7 ∨ p1 = 8 := by omega
  clear b1
  rcases hp with rfl | rfl | rfl | rfl | rfl | rfl | rfl | rfl | rfl
  · obtain ⟨v, hv⟩ : ∃ v, Go.RowKit.wrap64 (x.no + 1) = v := ⟨_, rfl⟩
    have hvb : I64 v := by rw [← hv]; unfold I64 Go.RowKit.wrap64; omega
    have HV := Lib.hid hv; clear hv
    (repeat' ((fail_if_success at_builtin); (fail_if_success (show wpList _ _ _ ({ dst := some 65, op := _, type := _, pos := _, after := _, guard := _ } :: _) _ _)); first | (fail) | go_values | go_skip | go_guarded | go_step | go_upon))
    rw [HV.out]
    obtain ⟨w2, hw2⟩ : ∃ w2, w1.setCell ⟨z, 0, none⟩ (.int .i64 v) = w2 := ⟨_, rfl⟩
    rw [hw2]
    have hB2 : Below w.heap.size w w2 := by rw [← hw2]; refine hB01.setCell ?_ _; exact hwz
    have hq2 : w2.heap[q]? = some (.cells zEnt.cells.toArray 73 (0, 0)) := by
      rw [← hw2]; exact (Below.heap_setCell _ _ _ _ (by show q ≠ z; omega)).trans HQ1.out
    obtain ⟨y, hy⟩ : ∃ y : Ent, { x with no := v } = y := ⟨_, rfl⟩
    have hyf : y.Fit := by rw [← hy]; exact ⟨⟨hvb, HX.out.clock, HX.out.kind, HX.out.code, HX.out.id, HX.out.stream, HX.out.subject, HX.out.sum⟩, h5', h6'⟩
    have hg2 : w2.heap[z]? = some (.cells y.cells.toArray 73 (0, 0)) := by rw [← hw2, row_set HG1.out, List.setIfInBounds_toArray, ← hy]; rfl
    clear hw2 hy hvb
    have HQ2 := Lib.hid hq2
    have hyl : y.cells.length = 39 := Ent.cells_length hyf.ok.sum
    have HIY := Lib.hid (show (Tryd.prog.info? 73).map (·.size) = some y.cells.length by rw [hyl]; exact entSize)
    have HFY := Lib.hid (show 0 + y.cells.length ≤ zEnt.cells.toArray.size by rw [hyl]; exact Nat.le_refl _)
    have HOY := Lib.hid y.cells_oneCell
    have HLY := Lib.hid (show y.cells.length = zEnt.cells.toArray.toList.length by rw [hyl]; rfl)
    have HR2 := Lib.hid (rangeAt_whole hg2)
    have HYF := Lib.hid hyf
    clear hq2 hyl hg2 hyf
    (repeat' ((fail_if_success at_builtin); first | (first | (with_reducible refine wpList_load_mid rfl 73 _ rfl z 0 rfl y.cells _ HR2.out hu73 rfl HIY.out ?_) | ((with_reducible refine wpList_store_blk rfl 73 _ _ rfl q 0 y.cells rfl rfl _ _ HQ2.out HFY.out HIY.out HOY.out ?_); intro w3 hg3 hG3; rw [splice_whole _ _ HLY.out] at hg3; have HG3 := Lib.hid hg3; clear hg3)) | go_values | go_skip | go_guarded | go_step | go_upon))
    have hR := run_loadVar_mid (P := Tryd.prog) w3 q 0 73 y.cells _ (rangeAt_whole HG3.out) hu73 rfl HIY.out
    have HR4 := Lib.hid hR; clear hR
    exact bodyPost_ret (results_cell rfl _ _ _ ⟨q, 0, none⟩ rfl _ HR4.out) rfl ⟨y, rfl, HYF.out, hB2.grown hG3 hB2.size (fun k e => by cases e; omega)⟩
  · obtain ⟨v, hv⟩ : ∃ v, Go.RowKit.wrap64 (x.clock + 1) = v := ⟨_, rfl⟩
    have hvb : I64 v := by rw [← hv]; unfold I64 Go.RowKit.wrap64; omega
    have HV := Lib.hid hv; clear hv
    (repeat' ((fail_if_success at_builtin); (fail_if_success (show wpList _ _ _ ({ dst := some 65, op := _, type := _, pos := _, after := _, guard := _ } :: _) _ _)); first | (fail) | go_values | go_skip | go_guarded | go_step | go_upon))
    rw [HV.out]
    obtain ⟨w2, hw2⟩ : ∃ w2, w1.setCell ⟨z, 1, none⟩ (.int .i64 v) = w2 := ⟨_, rfl⟩
    rw [hw2]
    have hB2 : Below w.heap.size w w2 := by rw [← hw2]; refine hB01.setCell ?_ _; exact hwz
    have hq2 : w2.heap[q]? = some (.cells zEnt.cells.toArray 73 (0, 0)) := by
      rw [← hw2]; exact (Below.heap_setCell _ _ _ _ (by show q ≠ z; omega)).trans HQ1.out
    obtain ⟨y, hy⟩ : ∃ y : Ent, { x with clock := v } = y := ⟨_, rfl⟩
    have hyf : y.Fit := by rw [← hy]; exact ⟨⟨HX.out.no, hvb, HX.out.kind, HX.out.code, HX.out.id, HX.out.stream, HX.out.subject, HX.out.sum⟩, h5', h6'⟩
    have hg2 : w2.heap[z]? = some (.cells y.cells.toArray 73 (0, 0)) := by rw [← hw2, row_set HG1.out, List.setIfInBounds_toArray, ← hy]; rfl
    clear hw2 hy hvb
    have HQ2 := Lib.hid hq2
    have hyl : y.cells.length = 39 := Ent.cells_length hyf.ok.sum
    have HIY := Lib.hid (show (Tryd.prog.info? 73).map (·.size) = some y.cells.length by rw [hyl]; exact entSize)
    have HFY := Lib.hid (show 0 + y.cells.length ≤ zEnt.cells.toArray.size by rw [hyl]; exact Nat.le_refl _)
    have HOY := Lib.hid y.cells_oneCell
    have HLY := Lib.hid (show y.cells.length = zEnt.cells.toArray.toList.length by rw [hyl]; rfl)
    have HR2 := Lib.hid (rangeAt_whole hg2)
    have HYF := Lib.hid hyf
    clear hq2 hyl hg2 hyf
    (repeat' ((fail_if_success at_builtin); first | (first | (with_reducible refine wpList_load_mid rfl 73 _ rfl z 0 rfl y.cells _ HR2.out hu73 rfl HIY.out ?_) | ((with_reducible refine wpList_store_blk rfl 73 _ _ rfl q 0 y.cells rfl rfl _ _ HQ2.out HFY.out HIY.out HOY.out ?_); intro w3 hg3 hG3; rw [splice_whole _ _ HLY.out] at hg3; have HG3 := Lib.hid hg3; clear hg3)) | go_values | go_skip | go_guarded | go_step | go_upon))
    have hR := run_loadVar_mid (P := Tryd.prog) w3 q 0 73 y.cells _ (rangeAt_whole HG3.out) hu73 rfl HIY.out
    have HR4 := Lib.hid hR; clear hR
    exact bodyPost_ret (results_cell rfl _ _ _ ⟨q, 0, none⟩ rfl _ HR4.out) rfl ⟨y, rfl, HYF.out, hB2.grown hG3 hB2.size (fun k e => by cases e; omega)⟩
  · obtain ⟨v, hv⟩ : ∃ v, Go.RowKit.wrap64 (Go.RowKit.wrap64 (-x.kind) - 1) = v := ⟨_, rfl⟩
    have hvb : I64 v := by rw [← hv]; unfold I64 Go.RowKit.wrap64; omega
    have HV := Lib.hid hv; clear hv
    (repeat' ((fail_if_success at_builtin); (fail_if_success (show wpList _ _ _ ({ dst := some 65, op := _, type := _, pos := _, after := _, guard := _ } :: _) _ _)); first | (fail) | go_values | go_skip | go_guarded | go_step | go_upon))
    rw [HV.out]
    obtain ⟨w2, hw2⟩ : ∃ w2, w1.setCell ⟨z, 2, none⟩ (.int .i64 v) = w2 := ⟨_, rfl⟩
    rw [hw2]
    have hB2 : Below w.heap.size w w2 := by rw [← hw2]; refine hB01.setCell ?_ _; exact hwz
    have hq2 : w2.heap[q]? = some (.cells zEnt.cells.toArray 73 (0, 0)) := by
      rw [← hw2]; exact (Below.heap_setCell _ _ _ _ (by show q ≠ z; omega)).trans HQ1.out
    obtain ⟨y, hy⟩ : ∃ y : Ent, { x with kind := v } = y := ⟨_, rfl⟩
    have hyf : y.Fit := by rw [← hy]; exact ⟨⟨HX.out.no, HX.out.clock, hvb, HX.out.code, HX.out.id, HX.out.stream, HX.out.subject, HX.out.sum⟩, h5', h6'⟩
    have hg2 : w2.heap[z]? = some (.cells y.cells.toArray 73 (0, 0)) := by rw [← hw2, row_set HG1.out, List.setIfInBounds_toArray, ← hy]; rfl
    clear hw2 hy hvb
    have HQ2 := Lib.hid hq2
    have hyl : y.cells.length = 39 := Ent.cells_length hyf.ok.sum
    have HIY := Lib.hid (show (Tryd.prog.info? 73).map (·.size) = some y.cells.length by rw [hyl]; exact entSize)
    have HFY := Lib.hid (show 0 + y.cells.length ≤ zEnt.cells.toArray.size by rw [hyl]; exact Nat.le_refl _)
    have HOY := Lib.hid y.cells_oneCell
    have HLY := Lib.hid (show y.cells.length = zEnt.cells.toArray.toList.length by rw [hyl]; rfl)
    have HR2 := Lib.hid (rangeAt_whole hg2)
    have HYF := Lib.hid hyf
    clear hq2 hyl hg2 hyf
    (repeat' ((fail_if_success at_builtin); first | (first | (with_reducible refine wpList_load_mid rfl 73 _ rfl z 0 rfl y.cells _ HR2.out hu73 rfl HIY.out ?_) | ((with_reducible refine wpList_store_blk rfl 73 _ _ rfl q 0 y.cells rfl rfl _ _ HQ2.out HFY.out HIY.out HOY.out ?_); intro w3 hg3 hG3; rw [splice_whole _ _ HLY.out] at hg3; have HG3 := Lib.hid hg3; clear hg3)) | go_values | go_skip | go_guarded | go_step | go_upon))
    have hR := run_loadVar_mid (P := Tryd.prog) w3 q 0 73 y.cells _ (rangeAt_whole HG3.out) hu73 rfl HIY.out
    have HR4 := Lib.hid hR; clear hR
    exact bodyPost_ret (results_cell rfl _ _ _ ⟨q, 0, none⟩ rfl _ HR4.out) rfl ⟨y, rfl, HYF.out, hB2.grown hG3 hB2.size (fun k e => by cases e; omega)⟩
  · obtain ⟨v, hv⟩ : ∃ v, Go.RowKit.wrap64 (x.code + 1) = v := ⟨_, rfl⟩
    have hvb : I64 v := by rw [← hv]; unfold I64 Go.RowKit.wrap64; omega
    have HV := Lib.hid hv; clear hv
    (repeat' ((fail_if_success at_builtin); (fail_if_success (show wpList _ _ _ ({ dst := some 65, op := _, type := _, pos := _, after := _, guard := _ } :: _) _ _)); first | (fail) | go_values | go_skip | go_guarded | go_step | go_upon))
    rw [HV.out]
    obtain ⟨w2, hw2⟩ : ∃ w2, w1.setCell ⟨z, 3, none⟩ (.int .i64 v) = w2 := ⟨_, rfl⟩
    rw [hw2]
    have hB2 : Below w.heap.size w w2 := by rw [← hw2]; refine hB01.setCell ?_ _; exact hwz
    have hq2 : w2.heap[q]? = some (.cells zEnt.cells.toArray 73 (0, 0)) := by
      rw [← hw2]; exact (Below.heap_setCell _ _ _ _ (by show q ≠ z; omega)).trans HQ1.out
    obtain ⟨y, hy⟩ : ∃ y : Ent, { x with code := v } = y := ⟨_, rfl⟩
    have hyf : y.Fit := by rw [← hy]; exact ⟨⟨HX.out.no, HX.out.clock, HX.out.kind, hvb, HX.out.id, HX.out.stream, HX.out.subject, HX.out.sum⟩, h5', h6'⟩
    have hg2 : w2.heap[z]? = some (.cells y.cells.toArray 73 (0, 0)) := by rw [← hw2, row_set HG1.out, List.setIfInBounds_toArray, ← hy]; rfl
    clear hw2 hy hvb
    have HQ2 := Lib.hid hq2
    have hyl : y.cells.length = 39 := Ent.cells_length hyf.ok.sum
    have HIY := Lib.hid (show (Tryd.prog.info? 73).map (·.size) = some y.cells.length by rw [hyl]; exact entSize)
    have HFY := Lib.hid (show 0 + y.cells.length ≤ zEnt.cells.toArray.size by rw [hyl]; exact Nat.le_refl _)
    have HOY := Lib.hid y.cells_oneCell
    have HLY := Lib.hid (show y.cells.length = zEnt.cells.toArray.toList.length by rw [hyl]; rfl)
    have HR2 := Lib.hid (rangeAt_whole hg2)
    have HYF := Lib.hid hyf
    clear hq2 hyl hg2 hyf
    (repeat' ((fail_if_success at_builtin); first | (first | (with_reducible refine wpList_load_mid rfl 73 _ rfl z 0 rfl y.cells _ HR2.out hu73 rfl HIY.out ?_) | ((with_reducible refine wpList_store_blk rfl 73 _ _ rfl q 0 y.cells rfl rfl _ _ HQ2.out HFY.out HIY.out HOY.out ?_); intro w3 hg3 hG3; rw [splice_whole _ _ HLY.out] at hg3; have HG3 := Lib.hid hg3; clear hg3)) | go_values | go_skip | go_guarded | go_step | go_upon))
    have hR := run_loadVar_mid (P := Tryd.prog) w3 q 0 73 y.cells _ (rangeAt_whole HG3.out) hu73 rfl HIY.out
    have HR4 := Lib.hid hR; clear hR
    exact bodyPost_ret (results_cell rfl _ _ _ ⟨q, 0, none⟩ rfl _ HR4.out) rfl ⟨y, rfl, HYF.out, hB2.grown hG3 hB2.size (fun k e => by cases e; omega)⟩
  · obtain ⟨v, hv⟩ : ∃ v, Go.RowKit.wrap64 (x.id + 1) = v := ⟨_, rfl⟩
    have hvb : I64 v := by rw [← hv]; unfold I64 Go.RowKit.wrap64; omega
    have HV := Lib.hid hv; clear hv
    (repeat' ((fail_if_success at_builtin); (fail_if_success (show wpList _ _ _ ({ dst := some 65, op := _, type := _, pos := _, after := _, guard := _ } :: _) _ _)); first | (fail) | go_values | go_skip | go_guarded | go_step | go_upon))
    rw [HV.out]
    obtain ⟨w2, hw2⟩ : ∃ w2, w1.setCell ⟨z, 4, none⟩ (.int .i64 v) = w2 := ⟨_, rfl⟩
    rw [hw2]
    have hB2 : Below w.heap.size w w2 := by rw [← hw2]; refine hB01.setCell ?_ _; exact hwz
    have hq2 : w2.heap[q]? = some (.cells zEnt.cells.toArray 73 (0, 0)) := by
      rw [← hw2]; exact (Below.heap_setCell _ _ _ _ (by show q ≠ z; omega)).trans HQ1.out
    obtain ⟨y, hy⟩ : ∃ y : Ent, { x with id := v } = y := ⟨_, rfl⟩
    have hyf : y.Fit := by rw [← hy]; exact ⟨⟨HX.out.no, HX.out.clock, HX.out.kind, HX.out.code, hvb, HX.out.stream, HX.out.subject, HX.out.sum⟩, h5', h6'⟩
    have hg2 : w2.heap[z]? = some (.cells y.cells.toArray 73 (0, 0)) := by rw [← hw2, row_set HG1.out, List.setIfInBounds_toArray, ← hy]; rfl
    clear hw2 hy hvb
    have HQ2 := Lib.hid hq2
    have hyl : y.cells.length = 39 := Ent.cells_length hyf.ok.sum
    have HIY := Lib.hid (show (Tryd.prog.info? 73).map (·.size) = some y.cells.length by rw [hyl]; exact entSize)
    have HFY := Lib.hid (show 0 + y.cells.length ≤ zEnt.cells.toArray.size by rw [hyl]; exact Nat.le_refl _)
    have HOY := Lib.hid y.cells_oneCell
    have HLY := Lib.hid (show y.cells.length = zEnt.cells.toArray.toList.length by rw [hyl]; rfl)
    have HR2 := Lib.hid (rangeAt_whole hg2)
    have HYF := Lib.hid hyf
    clear hq2 hyl hg2 hyf
    (repeat' ((fail_if_success at_builtin); first | (first | (with_reducible refine wpList_load_mid rfl 73 _ rfl z 0 rfl y.cells _ HR2.out hu73 rfl HIY.out ?_) | ((with_reducible refine wpList_store_blk rfl 73 _ _ rfl q 0 y.cells rfl rfl _ _ HQ2.out HFY.out HIY.out HOY.out ?_); intro w3 hg3 hG3; rw [splice_whole _ _ HLY.out] at hg3; have HG3 := Lib.hid hg3; clear hg3)) | go_values | go_skip | go_guarded | go_step | go_upon))
    have hR := run_loadVar_mid (P := Tryd.prog) w3 q 0 73 y.cells _ (rangeAt_whole HG3.out) hu73 rfl HIY.out
    have HR4 := Lib.hid hR; clear hR
    exact bodyPost_ret (results_cell rfl _ _ _ ⟨q, 0, none⟩ rfl _ HR4.out) rfl ⟨y, rfl, HYF.out, hB2.grown hG3 hB2.size (fun k e => by cases e; omega)⟩
  · obtain ⟨v, hv⟩ : ∃ v : ByteArray, x.stream ++ ⟨#[120]⟩ = v := ⟨_, rfl⟩
    have hvs : v.size ≤ 1025 := by rw [← hv]; simp [ByteArray.size_append]; show x.stream.size + 1 ≤ 1025; omega
    have HV := Lib.hid hv; clear hv
    (repeat' ((fail_if_success at_builtin); (fail_if_success (show wpList _ _ _ ({ dst := some 65, op := _, type := _, pos := _, after := _, guard := _ } :: _) _ _)); first | (fail) | go_values | go_skip | go_guarded | go_step | go_upon))
    rw [HV.out]
    obtain ⟨w2, hw2⟩ : ∃ w2, w1.setCell ⟨z, 5, none⟩ (.string v) = w2 := ⟨_, rfl⟩
    rw [hw2]
    have hB2 : Below w.heap.size w w2 := by rw [← hw2]; refine hB01.setCell ?_ _; exact hwz
    have hq2 : w2.heap[q]? = some (.cells zEnt.cells.toArray 73 (0, 0)) := by
      rw [← hw2]; exact (Below.heap_setCell _ _ _ _ (by show q ≠ z; omega)).trans HQ1.out
    obtain ⟨y, hy⟩ : ∃ y : Ent, { x with stream := v } = y := ⟨_, rfl⟩
    have hyf : y.Fit := by rw [← hy]; exact ⟨⟨HX.out.no, HX.out.clock, HX.out.kind, HX.out.code, HX.out.id, (by show v.size ≤ maxLen; unfold maxLen; omega), HX.out.subject, HX.out.sum⟩, (by show v.size ≤ 4096; omega), h6'⟩
    have hg2 : w2.heap[z]? = some (.cells y.cells.toArray 73 (0, 0)) := by rw [← hw2, row_set HG1.out, List.setIfInBounds_toArray, ← hy]; rfl
    clear hw2 hy hvs
    have HQ2 := Lib.hid hq2
    have hyl : y.cells.length = 39 := Ent.cells_length hyf.ok.sum
    have HIY := Lib.hid (show (Tryd.prog.info? 73).map (·.size) = some y.cells.length by rw [hyl]; exact entSize)
    have HFY := Lib.hid (show 0 + y.cells.length ≤ zEnt.cells.toArray.size by rw [hyl]; exact Nat.le_refl _)
    have HOY := Lib.hid y.cells_oneCell
    have HLY := Lib.hid (show y.cells.length = zEnt.cells.toArray.toList.length by rw [hyl]; rfl)
    have HR2 := Lib.hid (rangeAt_whole hg2)
    have HYF := Lib.hid hyf
    clear hq2 hyl hg2 hyf
    (repeat' ((fail_if_success at_builtin); first | (first | (with_reducible refine wpList_load_mid rfl 73 _ rfl z 0 rfl y.cells _ HR2.out hu73 rfl HIY.out ?_) | ((with_reducible refine wpList_store_blk rfl 73 _ _ rfl q 0 y.cells rfl rfl _ _ HQ2.out HFY.out HIY.out HOY.out ?_); intro w3 hg3 hG3; rw [splice_whole _ _ HLY.out] at hg3; have HG3 := Lib.hid hg3; clear hg3)) | go_values | go_skip | go_guarded | go_step | go_upon))
    have hR := run_loadVar_mid (P := Tryd.prog) w3 q 0 73 y.cells _ (rangeAt_whole HG3.out) hu73 rfl HIY.out
    have HR4 := Lib.hid hR; clear hR
    exact bodyPost_ret (results_cell rfl _ _ _ ⟨q, 0, none⟩ rfl _ HR4.out) rfl ⟨y, rfl, HYF.out, hB2.grown hG3 hB2.size (fun k e => by cases e; omega)⟩
  · obtain ⟨v, hv⟩ : ∃ v : ByteArray, x.stream ++ x.subject ++ ⟨#[121]⟩ = v := ⟨_, rfl⟩
    have hvs : v.size ≤ 1025 := by rw [← hv]; simp [ByteArray.size_append]; show x.stream.size + x.subject.size + 1 ≤ 1025; omega
    have HV := Lib.hid hv; clear hv
    (repeat' ((fail_if_success at_builtin); (fail_if_success (show wpList _ _ _ ({ dst := some 65, op := _, type := _, pos := _, after := _, guard := _ } :: _) _ _)); first | (fail) | go_values | go_skip | go_guarded | go_step | go_upon))
    rw [HV.out]
    obtain ⟨w2, hw2⟩ : ∃ w2, w1.setCell ⟨z, 6, none⟩ (.string v) = w2 := ⟨_, rfl⟩
    rw [hw2]
    have hB2 : Below w.heap.size w w2 := by rw [← hw2]; refine hB01.setCell ?_ _; exact hwz
    have hq2 : w2.heap[q]? = some (.cells zEnt.cells.toArray 73 (0, 0)) := by
      rw [← hw2]; exact (Below.heap_setCell _ _ _ _ (by show q ≠ z; omega)).trans HQ1.out
    obtain ⟨y, hy⟩ : ∃ y : Ent, { x with subject := v } = y := ⟨_, rfl⟩
    have hyf : y.Fit := by rw [← hy]; exact ⟨⟨HX.out.no, HX.out.clock, HX.out.kind, HX.out.code, HX.out.id, HX.out.stream, (by show v.size ≤ maxLen; unfold maxLen; omega), HX.out.sum⟩, h5', (by show v.size ≤ 4096; omega)⟩
    have hg2 : w2.heap[z]? = some (.cells y.cells.toArray 73 (0, 0)) := by rw [← hw2, row_set HG1.out, List.setIfInBounds_toArray, ← hy]; rfl
    clear hw2 hy hvs
    have HQ2 := Lib.hid hq2
    have hyl : y.cells.length = 39 := Ent.cells_length hyf.ok.sum
    have HIY := Lib.hid (show (Tryd.prog.info? 73).map (·.size) = some y.cells.length by rw [hyl]; exact entSize)
    have HFY := Lib.hid (show 0 + y.cells.length ≤ zEnt.cells.toArray.size by rw [hyl]; exact Nat.le_refl _)
    have HOY := Lib.hid y.cells_oneCell
    have HLY := Lib.hid (show y.cells.length = zEnt.cells.toArray.toList.length by rw [hyl]; rfl)
    have HR2 := Lib.hid (rangeAt_whole hg2)
    have HYF := Lib.hid hyf
    clear hq2 hyl hg2 hyf
    (repeat' ((fail_if_success at_builtin); first | (first | (with_reducible refine wpList_load_mid rfl 73 _ rfl z 0 rfl y.cells _ HR2.out hu73 rfl HIY.out ?_) | ((with_reducible refine wpList_store_blk rfl 73 _ _ rfl q 0 y.cells rfl rfl _ _ HQ2.out HFY.out HIY.out HOY.out ?_); intro w3 hg3 hG3; rw [splice_whole _ _ HLY.out] at hg3; have HG3 := Lib.hid hg3; clear hg3)) | go_values | go_skip | go_guarded | go_step | go_upon))
    have hR := run_loadVar_mid (P := Tryd.prog) w3 q 0 73 y.cells _ (rangeAt_whole HG3.out) hu73 rfl HIY.out
    have HR4 := Lib.hid hR; clear hR
    exact bodyPost_ret (results_cell rfl _ _ _ ⟨q, 0, none⟩ rfl _ HR4.out) rfl ⟨y, rfl, HYF.out, hB2.grown hG3 hB2.size (fun k e => by cases e; omega)⟩
  · obtain ⟨k, hk, hkl⟩ := and31 how
    have hks : k < x.sum.length := by rw [HX.out.sum]; omega
    obtain ⟨b, hb⟩ : ∃ b, x.sum[k] = b := ⟨_, rfl⟩
    have ck : w1.cell? ⟨z, 7 + k, none⟩ = some (.int .u8 (b.toNat : Int)) := by
      rw [← hb]; exact ent_sum_cell HG1.out k hks
    have hx1 := xor_one b
    have f7 := frozen_of_row w1 z (7 + k) _ _ HG1.out
    have bk : (0 : Int) ≤ (k : Int) ∧ (k : Int) < 32 := by omega
    have HB := Lib.hid hb; clear hb
    (repeat' ((fail_if_success at_builtin); (fail_if_success (show wpList _ _ _ ({ dst := some 65, op := _, type := _, pos := _, after := _, guard := _ } :: _) _ _)); first | (fail) | go_values | go_skip | go_guarded | go_step | go_upon))
    obtain ⟨w2, hw2⟩ : ∃ w2, w1.setCell ⟨z, 7 + k, none⟩ (.int .u8 ((xor1 b).toNat : Int)) = w2 := ⟨_, rfl⟩
    rw [hw2]
    have hB2 : Below w.heap.size w w2 := by rw [← hw2]; refine hB01.setCell ?_ _; exact hwz
    have hq2 : w2.heap[q]? = some (.cells zEnt.cells.toArray 73 (0, 0)) := by
      rw [← hw2]; exact (Below.heap_setCell _ _ _ _ (by show q ≠ z; omega)).trans HQ1.out
    obtain ⟨y, hy⟩ : ∃ y : Ent, { x with sum := x.sum.set k (xor1 b) } = y := ⟨_, rfl⟩
    have hyf : y.Fit := by rw [← hy]; exact ⟨⟨HX.out.no, HX.out.clock, HX.out.kind, HX.out.code, HX.out.id, HX.out.stream, HX.out.subject, (by rw [List.length_set]; exact HX.out.sum)⟩, h5', h6'⟩
    have hg2 : w2.heap[z]? = some (.cells y.cells.toArray 73 (0, 0)) := by rw [← hw2, row_set HG1.out, List.setIfInBounds_toArray, ← hy, ent_set_at x k hks]
    clear hw2 hy ck hx1 bk hk
    have HQ2 := Lib.hid hq2
    have hyl : y.cells.length = 39 := Ent.cells_length hyf.ok.sum
    have HIY := Lib.hid (show (Tryd.prog.info? 73).map (·.size) = some y.cells.length by rw [hyl]; exact entSize)
    have HFY := Lib.hid (show 0 + y.cells.length ≤ zEnt.cells.toArray.size by rw [hyl]; exact Nat.le_refl _)
    have HOY := Lib.hid y.cells_oneCell
    have HLY := Lib.hid (show y.cells.length = zEnt.cells.toArray.toList.length by rw [hyl]; rfl)
    have HR2 := Lib.hid (rangeAt_whole hg2)
    have HYF := Lib.hid hyf
    clear hq2 hyl hg2 hyf
    (repeat' ((fail_if_success at_builtin); first | (first | (with_reducible refine wpList_load_mid rfl 73 _ rfl z 0 rfl y.cells _ HR2.out hu73 rfl HIY.out ?_) | ((with_reducible refine wpList_store_blk rfl 73 _ _ rfl q 0 y.cells rfl rfl _ _ HQ2.out HFY.out HIY.out HOY.out ?_); intro w3 hg3 hG3; rw [splice_whole _ _ HLY.out] at hg3; have HG3 := Lib.hid hg3; clear hg3)) | go_values | go_skip | go_guarded | go_step | go_upon))
    have hR := run_loadVar_mid (P := Tryd.prog) w3 q 0 73 y.cells _ (rangeAt_whole HG3.out) hu73 rfl HIY.out
    have HR4 := Lib.hid hR; clear hR
    exact bodyPost_ret (results_cell rfl _ _ _ ⟨q, 0, none⟩ rfl _ HR4.out) rfl ⟨y, rfl, HYF.out, hB2.grown hG3 hB2.size (fun k e => by cases e; omega)⟩
  · (repeat' ((fail_if_success at_builtin); (fail_if_success (show wpList _ _ _ ({ dst := some 65, op := _, type := _, pos := _, after := _, guard := _ } :: _) _ _)); first | (fail) | go_values | go_skip | go_guarded | go_step | go_upon))
    obtain ⟨w2, hw2⟩ : ∃ w2, w1 = w2 := ⟨_, rfl⟩
    rw [hw2]
    have hB2 : Below w.heap.size w w2 := by rw [← hw2]; exact hB01
    have hq2 : w2.heap[q]? = some (.cells zEnt.cells.toArray 73 (0, 0)) := by rw [← hw2]; exact HQ1.out
    obtain ⟨y, hy⟩ : ∃ y : Ent, x = y := ⟨_, rfl⟩
    have hyf : y.Fit := by rw [← hy]; exact ⟨HX.out, h5', h6'⟩
    have hg2 : w2.heap[z]? = some (.cells y.cells.toArray 73 (0, 0)) := by rw [← hw2, ← hy]; exact HG1.out
    clear hw2 hy
    have HQ2 := Lib.hid hq2
    have hyl : y.cells.length = 39 := Ent.cells_length hyf.ok.sum
    have HIY := Lib.hid (show (Tryd.prog.info? 73).map (·.size) = some y.cells.length by rw [hyl]; exact entSize)
    have HFY := Lib.hid (show 0 + y.cells.length ≤ zEnt.cells.toArray.size by rw [hyl]; exact Nat.le_refl _)
    have HOY := Lib.hid y.cells_oneCell
    have HLY := Lib.hid (show y.cells.length = zEnt.cells.toArray.toList.length by rw [hyl]; rfl)
    have HR2 := Lib.hid (rangeAt_whole hg2)
    have HYF := Lib.hid hyf
    clear hq2 hyl hg2 hyf
    (repeat' ((fail_if_success at_builtin); first | (first | (with_reducible refine wpList_load_mid rfl 73 _ rfl z 0 rfl y.cells _ HR2.out hu73 rfl HIY.out ?_) | ((with_reducible refine wpList_store_blk rfl 73 _ _ rfl q 0 y.cells rfl rfl _ _ HQ2.out HFY.out HIY.out HOY.out ?_); intro w3 hg3 hG3; rw [splice_whole _ _ HLY.out] at hg3; have HG3 := Lib.hid hg3; clear hg3)) | go_values | go_skip | go_guarded | go_step | go_upon))
    have hR := run_loadVar_mid (P := Tryd.prog) w3 q 0 73 y.cells _ (rangeAt_whole HG3.out) hu73 rfl HIY.out
    have HR4 := Lib.hid hR; clear hR
    exact bodyPost_ret (results_cell rfl _ _ _ ⟨q, 0, none⟩ rfl _ HR4.out) rfl ⟨y, rfl, HYF.out, hB2.grown hG3 hB2.size (fun k e => by cases e; omega)⟩

end Go.Proofs.YtdpfemhfmofmlaaDoor

namespace Go.Proofs.YtdpfemhfmofmlaaDoor
set_option linter.unusedSimpArgs false
set_option linter.unusedVariables false
open Go.RowKit
set_option maxRecDepth 10000

theorem ents_put (xs : List Ent) (k : Nat) (hk : k < xs.length) (y : Ent) (hs : ∀ x ∈ xs, x.sum.length = 32) (hy : y.sum.length = 32) : splice (xs.flatMap Ent.cells) (k * 39) y.cells = (xs.set k y).flatMap Ent.cells := by
  have hl := Ent.cells_length hy
  rw [List.set_eq_take_append_cons_drop, if_pos hk, List.flatMap_append, List.flatMap_cons, ents_take _ _ hs, ents_drop xs (k + 1) hs]
  unfold splice
  rw [hl, Nat.add_mul]

/-- '[]T{x, y, z}' of three arrays. -/
theorem build_three_cells {P : Program} {ops : Array Oper} {o : Oper} {a : Act} {w : World} {K : Act → World → Prop} {Q : Exit → Act → World → Prop} (T e : TypeId) (x0 x1 x2 : Operand) (ho : o.op = .buildSlice T 3 #[(0, x0), (1, x1), (2, x2)]) (hu : P.underlying T = some (.slice e)) (s : Nat) (c0 c1 c2 : List Value)
    (l0 : c0.length = s) (l1 : c1.length = s) (l2 : c2.length = s) (h0' : a.eval x0 = .agg c0.toArray) (h1' : a.eval x1 = .agg c1.toArray) (h2' : a.eval x2 = .agg c2.toArray)
    (ie : TypeInfo) (zv : Value) (hie : P.info? e = some ie) (hzz : ie.zero = some zv) (hsz : ie.size = s) (h0 : 0 < s) (hb : s ≤ 1000)
    (h : ∀ w1, w1.heap[w.heap.size]? = some (.cells (c0 ++ c1 ++ c2).toArray e (0, 0)) → Below w.heap.size w w1 → w1.heap.size = w.heap.size + 1 → K (a.put o.dst (.slice (some ⟨w.heap.size, 0, none⟩) 3 3)) w1) : Oper.wp P o a w K Q := by
  refine wp_buildSlice T e 3 #[(0, x0), (1, x1), (2, x2)] ho (c0 ++ c1 ++ c2).toArray ie zv hu hie hzz (by rw [hsz]; omega) (by rw [hsz]; omega) ?_ ?_
  · have hp : ((#[(0, x0), (1, x1), (2, x2)] : Array (Nat × Operand)).map fun (i, y) => (i, a.eval y)).toList = (([Value.agg c0.toArray, Value.agg c1.toArray, Value.agg c2.toArray] : List Value).zipIdx 0).map fun y => (y.2, y.1) := by
      simp [h0', h1', h2']
    have hf := Great.fill_whole (s := s) h0 [Value.agg c0.toArray, Value.agg c1.toArray, Value.agg c2.toArray] ((Array.range (3 * s)).map (zv.cells[· % zv.cells.size]!)) (fun v hv => by
      simp at hv
      rcases hv with rfl | rfl | rfl <;> simp [Value.cells, l0, l1, l2]) (by simp)
    rw [hp, hsz]
    refine hf.trans ?_
    simp [Value.cells]
  · exact h _ (heap_alloc_new w _) ((Below.refl _ _).alloc (Nat.le_refl _) _) (by simp)
theorem step_build_three {P : Program} {ops : Array Oper} {o : Oper} {a : Act} {w : World} {K : Act → World → Prop} {Q : Exit → Act → World → Prop} {E : Prop} (hw : Region.wanted o (yielded ops a.tmps) = true) (T e : TypeId) (x0 x1 x2 : Operand) (ho : o.op = .buildSlice T 3 #[(0, x0), (1, x1), (2, x2)]) (hu : P.underlying T = some (.slice e)) (s : Nat) (c0 c1 c2 : List Value)
    (l0 : c0.length = s) (l1 : c1.length = s) (l2 : c2.length = s) (h0' : a.eval x0 = .agg c0.toArray) (h1' : a.eval x1 = .agg c1.toArray) (h2' : a.eval x2 = .agg c2.toArray)
    (ie : TypeInfo) (zv : Value) (hie : P.info? e = some ie) (hzz : ie.zero = some zv) (hsz : ie.size = s) (h0 : 0 < s) (hb : s ≤ 1000)
    (h : ∀ w1, w1.heap[w.heap.size]? = some (.cells (c0 ++ c1 ++ c2).toArray e (0, 0)) → Below w.heap.size w w1 → w1.heap.size = w.heap.size + 1 → K (a.put o.dst (.slice (some ⟨w.heap.size, 0, none⟩) 3 3)) w1) :
    if Region.wanted o (yielded ops a.tmps) = true then Oper.wp P o a w K Q else E := by
  rw [if_pos hw]; exact build_three_cells (ops := ops) T e x0 x1 x2 ho hu s c0 c1 c2 l0 l1 l2 h0' h1' h2' ie zv hie hzz hsz h0 hb h

theorem owns_span {w : World} {base e size : Nat} {v : Value} {n : Nat} {xs : List Value} (h : w.ownsRow base e size v n xs) : ∀ k, v.ownBlock = some k → base ≤ k ∧ k < w.heap.size := by
  intro k hk
  rcases h.2 with ⟨rfl, _⟩ | ⟨g', cap, cur, rfl, hg', hh, _⟩
  · cases hk
  · cases hk
    exact ⟨hg', (Array.getElem?_eq_some_iff.1 hh).1⟩
theorem sumInfo : (Tryd.prog.info? 26).map (fun i => (i.zero.map (·.cells), i.size)) = some (some (List.replicate 32 (Value.int .u8 0)).toArray, 32) := by kernel_rfl
theorem sumInfo_parts : ∃ i z, Tryd.prog.info? 26 = some i ∧ i.zero = some z ∧ i.size = 32 := by
  have h := sumInfo
  cases hi : Tryd.prog.info? 26 with
  | none => rw [hi] at h; cases h
  | some i =>
    rw [hi] at h
    simp only [Option.map_some, Option.some.injEq, Prod.mk.injEq] at h
    obtain ⟨h1, h2⟩ := h
    cases hz : i.zero with
    | none => rw [hz] at h1; cases h1
    | some z => exact ⟨i, z, rfl, hz, h2⟩

/-- While rows are added to the reference's log. -/
structure OneR (w : World) (m k : Nat) (wr : World) : Prop where
  out : ∃ (S : Nat → Prop) (cs : List RCh), RLogAt wr S m k cs ∧ (∀ j, S j → w.heap.size ≤ j) ∧ Below w.heap.size w wr ∧ ∀ s, ∀ x ∈ rowsOf cs s, ¬ x.big
theorem OneR.below {w wr w' : World} {m k : Nat} (h : OneR w m k wr) (hb : Below wr.heap.size wr w') : OneR w m k w' := by
  obtain ⟨S, cs, h1, h2, h3, h4⟩ := h.out
  exact ⟨⟨S, cs, h1.below hb, h2, h3.trans (hb.mono h3.size), h4⟩⟩
theorem oneRAdd (w : World) (m k : Nat) (s : ByteArray) (x : Ent) (wr : World) (h : OneR w m k wr) (hk : k ≤ 100000) (hx : x.Fit) (hxb : ¬ x.big) :
    Calls Tryd.prog 60 #[.pointer (some ⟨m, 0, none⟩), .string s, .agg x.cells.toArray] wr fun e w' => (∃ v, e = .returned v) ∧ OneR w m (k + 1) w' := by
  obtain ⟨S, cs, h1, h2, h3, h4⟩ := h.out
  refine (refAdd21 S m k cs s x _ wr h1 hk hx rfl).mono ?_
  rintro _ w' ⟨rfl, ⟨cs', hL, hcs⟩, hF⟩
  refine ⟨⟨_, rfl⟩, ⟨⟨_, cs', hL, ?_, h3.trans (hF.belowOf h3.size (fun j hj => h2 j hj)), ?_⟩⟩⟩
  · rintro j (hj | hj)
    · exact h2 j hj
    · have := h3.size; omega
  · intro t y hy
    rw [hcs t] at hy
    split at hy
    · rcases List.mem_append.1 hy with h5 | h5
      · exact h4 _ y h5
      · rw [List.mem_singleton.1 h5]; exact hxb
    · exact h4 t y hy
theorem oneRNew (w : World) : Calls Tryd.prog 59 #[] w fun e w' => ∃ m, e = .returned (.pointer (some ⟨m, 0, none⟩)) ∧ OneR w m 0 w' := by
  refine (refNew21 w).mono ?_
  rintro _ w' ⟨m, rfl, hL, hB⟩
  exact ⟨m, rfl, ⟨⟨_, _, hL, fun j hj => hj.1, hB, fun s x hx => (by cases hx)⟩⟩⟩
/-- All rows of the log, lent out as they lie. -/
theorem oneRAll (w : World) (m k : Nat) (s : ByteArray) (wr : World) (h : OneR w m k wr) (hk : k ≤ 100000) :
    Calls Tryd.prog 64 #[.pointer (some ⟨m, 0, none⟩), .string s] wr fun e w' => ∃ (l : List Ent) (a : Option Addr) (c : Nat), e = .returned (.slice a l.length c) ∧ l.length ≤ k ∧ (∀ x ∈ l, x.Fit ∧ ¬ x.big) ∧ RdC wr a (l.flatMap Ent.cells) ∧ wr = w' := by
  obtain ⟨S, cs, h1, h2, h3, h4⟩ := h.out
  obtain ⟨hfit, hlen⟩ := rows_fit h1 s
  refine (refAll21 S m k cs s wr h1 hk).mono ?_
  rintro _ w' ⟨a, c, rfl, _, hr, rfl⟩
  exact ⟨_, a, c, rfl, hlen, fun x hx => ⟨hfit x hx, h4 s x hx⟩, hr, rfl⟩

theorem oneRHead (w : World) (m k : Nat) (s : ByteArray) (wr : World) (h : OneR w m k wr) (hk : k ≤ 100000) :
    Calls Tryd.prog 66 #[.pointer (some ⟨m, 0, none⟩), .string s] wr fun e w' => ∃ P : List UInt8, e = .returned (.agg (bvs P).toArray) ∧ P.length = 32 ∧ Below wr.heap.size wr w' := by
  obtain ⟨S, cs, h1, h2, h3, h4⟩ := h.out
  obtain ⟨hfit, hlen⟩ := rows_fit h1 s
  refine (refHead21 S m k cs s _ wr h1 hk rfl).mono ?_
  rintro _ w' ⟨rfl, hB⟩
  exact ⟨_, rfl, headOf_length _ (fun x hx => (hfit x hx).ok), hB⟩
theorem heads_at {w : World} {z : Nat} {H P Z : List UInt8} (h : w.heap[z]? = some (.cells (bvs H ++ bvs P ++ bvs Z).toArray 26 (0, 0))) (hH : H.length = 32) (hP : P.length = 32) (hZ : Z.length = 32) (i : Nat) (hi : i < 3) : ∃ Q : List UInt8, Q.length = 32 ∧ w.rangeAt z (i * 32) (bvs Q) := by
  have lH : (bvs H).length = 32 := by rw [bvs_length, hH]
  have lP : (bvs P).length = 32 := by rw [bvs_length, hP]
  have lZ : (bvs Z).length = 32 := by rw [bvs_length, hZ]
  have hc : i = 0 ∨ i = 1 ∨ i = 2 := by omega
  rcases hc with rfl | rfl | rfl
  · refine ⟨H, hH, rangeAt_blk h _ _ ?_⟩
    rw [List.toList_toArray, lH, Nat.zero_mul, List.drop_zero, List.append_assoc, ← lH, List.take_left]
  · refine ⟨P, hP, rangeAt_blk h _ _ ?_⟩
    rw [List.toList_toArray, lP, Nat.one_mul, List.append_assoc]
    rw [show (bvs H ++ (bvs P ++ bvs Z)).drop 32 = bvs P ++ bvs Z by rw [← lH, List.drop_left]]
    rw [← lP, List.take_left]
  · refine ⟨Z, hZ, rangeAt_blk h _ _ ?_⟩
    rw [List.toList_toArray, lZ]
    rw [show (bvs H ++ bvs P ++ bvs Z).drop (2 * 32) = bvs Z by rw [show 2 * 32 = (bvs H ++ bvs P).length by rw [List.length_append, lH, lP], List.drop_left]]
    rw [← lZ, List.take_length]

abbrev HedS (wb : World) (z o : Nat) (P : List UInt8) (w' : World) : Prop := w'.rangeAt z o (bvs P) ∧ Below wb.heap.size wb w'
theorem hedS_below {wb w1 w2 : World} {z o : Nat} {P : List UInt8} (h : HedS wb z o P w1) (hb : Below w1.heap.size w1 w2) : HedS wb z o P w2 :=
  ⟨rangeAt_below h.1 hb (Nat.le_refl _), h.2.trans (hb.mono h.2.size)⟩

/-- A row put into a chain of one's own. -/
theorem owns_put {w w' : World} {base n c b : Nat} {cur : Array Value} {xs : List Ent} {y : Ent} {k : Nat} (hO : w.ownsRow base 73 39 (.slice (some ⟨b, 0, none⟩) n c) n (xs.flatMap Ent.cells)) (hxl : xs.length = n) (hs : ∀ x ∈ xs, x.sum.length = 32) (hy : y.sum.length = 32) (hk : k < n)
    (hcur : w.heap[b]? = some (.cells cur 73 (0, 0))) (hg : w'.heap[b]? = some (.cells (splice cur.toList (k * 39) y.cells).toArray 73 (0, 0))) : RdC w' (some ⟨b, 0, none⟩) ((xs.set k y).flatMap Ent.cells) := by
  have hyl := Ent.cells_length hy
  have hpre : ∀ i, i < n * 39 → cur.toList[i]? = (xs.flatMap Ent.cells)[i]? := fun i hi => by
    have hr := rdc_of_owns hO
    have hl := ents_length xs hs
    have h1 := hr.cell i (by rw [hl, hxl]; exact hi)
    rw [Nat.zero_add, cell_of_row w b i _ _ _ hcur] at h1
    rw [List.getElem?_eq_getElem (l := xs.flatMap Ent.cells) (by rw [hl, hxl]; exact hi), ← h1]
    simp
  have hcl : n * 39 ≤ cur.toList.length := by
    rcases Nat.lt_or_ge (cur.toList.length) (n * 39) with h | h
    · have h1 := hpre cur.toList.length h
      rw [List.getElem?_eq_none (Nat.le_refl _), List.getElem?_eq_getElem (by rw [ents_length xs hs, hxl]; exact h)] at h1
      cases h1
    · exact h
  have hk39 : k * 39 + 39 ≤ n * 39 := by omega
  have htk : cur.toList.take (n * 39) = xs.flatMap Ent.cells := by
    apply List.ext_getElem?
    intro i
    rw [List.getElem?_take]
    split
    · rename_i h; exact hpre i h
    · rename_i h; rw [List.getElem?_eq_none (by rw [ents_length xs hs, hxl]; omega)]
  have hsp : (splice cur.toList (k * 39) y.cells).take (n * 39) = (xs.set k y).flatMap Ent.cells := by
    rw [← ents_put xs k (by omega) y hs hy, ← htk]
    unfold splice
    have hA : (cur.toList.take (k * 39)).length = k * 39 := by rw [List.length_take]; omega
    rw [hyl, List.take_append, List.take_append, hA, hyl, List.take_take, List.take_take, List.drop_take]
    rw [Nat.min_eq_right (show k * 39 ≤ n * 39 by omega), Nat.min_eq_left (show k * 39 ≤ n * 39 by omega), List.take_of_length_le (show y.cells.length ≤ n * 39 - k * 39 by rw [hyl]; omega), Nat.sub_sub]
  rw [← hsp]
  exact rdc_take (rd_rowC hg) _

end Go.Proofs.YtdpfemhfmofmlaaDoor
