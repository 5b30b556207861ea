/- sealerylaw01.sum: a sum out of its words. -/
import Derived.Test.YtdpfemhfmofmlaaDoorHashSum
namespace Go.Proofs.YtdpfemhfmofmlaaDoor
set_option linter.unusedSimpArgs false
open Go.RowKit
set_option maxRecDepth 10000

structure LSumRel (s : List UInt32) (w : World) (i : Value) (wr : World) : Prop where
  out : ∃ k : Nat, k ≤ 32 ∧ i = .int .i64 k ∧ Below w.heap.size w wr ∧ wr.heap[w.heap.size]? = some (.cells (wvs s).toArray 44 (0, 0)) ∧ wr.heap[w.heap.size + 1]? = some (.cells (List.replicate 32 (Value.int .u8 0)).toArray 26 (0, 0)) ∧
    wr.heap[w.heap.size + 1 + 1]? = some (.cells (outCells s k).toArray 26 (0, 0))

set_option maxHeartbeats 1000000 in
theorem lawSum (s : List UInt32) (w : World) (hs : s.length = 8) :
    Calls Tryd.prog 36 #[.agg (wvs s).toArray] w fun e w' => e = .returned (.agg (bvs (wbytes s)).toArray) ∧ Below w.heap.size w w' := by
  obtain ⟨iS, zS, hiS, hzS, hcS⟩ := fresh_parts zeroSum
  have HIS := Lib.hid hiS; clear hiS
  have HZS := Lib.hid hzS; clear hzS
  have HCS := Lib.hid hcS; clear hcS
  have HSL := Lib.hid hs; clear hs
  obtain ⟨wb, hwb⟩ : ∃ wb, w.alloc (.cells (wvs s).toArray 44) = wb := ⟨_, rfl⟩
  have hsb : wb.heap.size = w.heap.size + 1 := by rw [← hwb]; simp
  have hgb : wb.heap[w.heap.size]? = some (.cells (wvs s).toArray 44 (0, 0)) := by rw [← hwb]; exact heap_alloc_new w _
  have hBb : Below w.heap.size w wb := by rw [← hwb]; exact (Below.refl _ _).alloc (Nat.le_refl _) _
  have HWB := Lib.hid hwb; clear hwb
  have HSB := Lib.hid hsb; clear hsb
  have HGB := Lib.hid hgb; clear hgb
  go_enter Tryd.func36, Tryd.ntmps36
  (repeat' ((fail_if_success at_builtin); first | (first | ((with_reducible refine wpList_alloc_fresh (w := w.alloc (.cells (wvs s).toArray 44)) rfl 26 rfl _ iS zS HIS.out HZS.out HCS.out ?_); rw [HWB.out]; intro w1 hg1 hB1 hs1; rw [HSB.out] at hg1 hs1; have HS1 := Lib.hid hs1; clear hs1; have HG1 := Lib.hid hg1; clear hg1; try rw [HSB.out]) | ((with_reducible refine wpList_alloc_fresh (w := w1) rfl 26 rfl _ iS zS HIS.out HZS.out HCS.out ?_); intro w2 hg2 hB2 hs2; rw [HS1.out] at hg2 hs2; have HS2 := Lib.hid hs2; clear hs2; have HG2 := Lib.hid hg2; clear hg2; try rw [HS1.out])) | go_values | go_skip | go_guarded | go_step | go_upon))
  have h1 := HSB.out
  have h2 := HS1.out
  have h3 := HS2.out
  have hB02 : Below w.heap.size w w2 := (hBb.trans (hB1.mono (by omega))).trans (hB2.mono (by omega))
  have hq2 := (hB2.block w.heap.size (by omega)).trans ((hB1.block w.heap.size (by omega)).trans HGB.out)
  have hr2 := (hB2.block (w.heap.size + 1) (by omega)).trans HG1.out
  have HQ2 := Lib.hid hq2; clear hq2
  have HR2 := Lib.hid hr2; clear hr2
  clear h1 h2 h3
  go_loopw [4] (fun i wr => LSumRel s w i wr) (fun i _ => 32 - (intOf i).toNat)
  case atStart => exact ⟨⟨0, by omega, rfl, hB02, HQ2.out, HR2.out, by rw [outCells_zero]; exact HG2.out⟩⟩
  case round =>
    obtain ⟨⟨j, hj, rfl, hB, hq, hr, hg⟩⟩ := hrel
    by_cases hlt32 : j < 32
    · obtain ⟨p, hp⟩ : ∃ p, j / 4 = p := ⟨_, rfl⟩
      obtain ⟨q, hqq⟩ : ∃ q, j % 4 = q := ⟨_, rfl⟩
      obtain ⟨e, he⟩ : ∃ e, 24 - 8 * q = e := ⟨_, rfl⟩
      have hp' : (j : Int) / 4 = (p : Int) := by omega
      have hq' : (j : Int) % 4 = (q : Int) := by omega
      have he' : (24 : Int) - 8 * (q : Int) = (e : Int) := by omega
      have bp : (0 : Int) ≤ (p : Int) ∧ (p : Int) < 8 := by omega
      have bq : (0 : Int) ≤ (q : Int) ∧ (q : Int) < 4 := by omega
      have be : (0 : Int) ≤ (e : Int) ∧ (e : Int) ≤ 24 := by omega
      have bj : (0 : Int) ≤ (j : Int) ∧ (j : Int) < 32 := by omega
      obtain ⟨x, hx⟩ : ∃ x, s[p]?.getD 0 = x := ⟨_, rfl⟩
      have hpl : p < s.length := by rw [HSL.out]; omega
      have hw : wr.cell? ⟨w.heap.size, p, none⟩ = some (.int .u32 (x.toNat : Int)) := by
        rw [cell_of_row wr _ p _ _ _ hq, List.getElem?_toArray, wvs_get _ p hpl, ← hx, List.getElem?_eq_getElem hpl]
        rfl
      have bx := x.toNat_lt
      have hstep := outCells_step s j hlt32 x (by rw [hp]; exact hx) e (by rw [hqq]; exact he)
      have hc1 : wr.cell? ⟨w.heap.size + 1 + 1, j, none⟩ = some (.int .u8 0) := by rw [cell_of_row wr _ j _ _ _ hg, outCells_get _ j hlt32]
      have hf1 := frozen_of_row wr (w.heap.size + 1 + 1) j _ _ hg
      have HG := Lib.hid hg; clear hg
      have HQ := Lib.hid hq; clear hq
      have HR := Lib.hid hr; clear hr
      have HX2 := Lib.hid hx; clear hx
      have HSTEP := Lib.hid hstep; clear hstep
      clear hp hqq he
      (repeat' ((fail_if_success at_builtin); first | go_values | go_skip | go_guarded | go_step | go_upon))
      go_roundw
      case rel =>
        go_light
        refine ⟨⟨j + 1, by omega, by go_num, hB.setCell (by show _ ≤ w.heap.size + 1 + 1; omega) _, ?_, ?_, ?_⟩⟩
        · rw [Below.heap_setCell _ _ _ _ (by show _ ≠ w.heap.size + 1 + 1; omega)]; exact HQ.out
        · rw [Below.heap_setCell _ _ _ _ (by show _ ≠ w.heap.size + 1 + 1; omega)]; exact HR.out
        · rw [row_set HG.out, HSTEP.out]
      case measure => go_light; simp [intOf]; omega
    · have j32 : j = 32 := by omega
      rw [j32, outCells_all] at hg
      have hn32 : ¬ ((j : Int) < 32) := by omega
      have hn32' : decide ((j : Int) < 32) = false := by simp; omega
      obtain ⟨D, hD⟩ : ∃ D, wbytes s = D := ⟨_, rfl⟩
      have hDl : (bvs D).length = 32 := by rw [bvs_length, ← hD, wbytes_length]
      rw [hD] at hg
      have hA := rangeAt_whole hg
      have hiD : (Tryd.prog.info? 26).map (·.size) = some (bvs D).length := by rw [hDl]; exact sizeSum
      have hfD : 0 + (bvs D).length ≤ (List.replicate 32 (Value.int .u8 0)).toArray.size := by rw [hDl]; simp
      have HA := Lib.hid hA; clear hA
      have HID := Lib.hid hiD; clear hiD
      have HFD := Lib.hid hfD; clear hfD
      have HDO := Lib.hid (bvs_oneCell D)
      have HDL := Lib.hid hDl; clear hDl
      have HD := Lib.hid hD; clear hD
      have HG := Lib.hid hg; clear hg
      have HRES := Lib.hid hr
      clear j32 hr hq
      (repeat' ((fail_if_success at_builtin); first | (first | (with_reducible refine wpList_load_mid rfl 26 _ rfl (w.heap.size + 1 + 1) 0 rfl (bvs D) _ HA.out Tryd.underlying26 rfl HID.out ?_) | ((with_reducible refine wpList_store_blk rfl 26 _ _ rfl (w.heap.size + 1) 0 (bvs D) rfl rfl _ _ HRES.out HFD.out HID.out HDO.out ?_); intro wz hgz hGz; have HGZ := Lib.hid hgz; clear hgz)) | go_values | go_skip | go_guarded | go_step | go_upon))
      have hgz := HGZ.out
      rw [splice_whole _ _ (by rw [HDL.out]; simp)] at hgz
      have hR := run_loadVar_mid (P := Tryd.prog) wz (w.heap.size + 1) 0 26 (bvs D) _ (rangeAt_whole hgz) Tryd.underlying26 rfl HID.out
      have HR2 := Lib.hid hR; clear hR
      clear hgz
      exact bodyPost_ret (results_cell rfl _ _ _ ⟨w.heap.size + 1, 0, none⟩ rfl _ HR2.out) rfl ⟨by rw [HD.out], hB.grown hGz hB.size (fun k e => by cases e; omega)⟩

end Go.Proofs.YtdpfemhfmofmlaaDoor
