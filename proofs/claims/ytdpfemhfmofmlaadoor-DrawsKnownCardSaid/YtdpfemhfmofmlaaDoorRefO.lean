/- What package sealeryref02 computes: a code; a code behind a code. -/
import Derived.Test.YtdpfemhfmofmlaaDoorRefT
import Derived.Test.YtdpfemhfmofmlaaDoorMacC
namespace Go.Proofs.YtdpfemhfmofmlaaDoor
set_option linter.unusedSimpArgs false
open Go.RowKit
set_option maxRecDepth 10000

set_option maxHeartbeats 2000000 in
theorem refOf (a b : Option Addr) (n1 n2 c1 c2 : Nat) (l1 l2 H : List UInt8) (w : World) (hH : hmac l1 l2 = H) (h1 : RdB w a l1) (h2 : RdB w b l2) (e1 : l1.length = n1) (e2 : l2.length = n2) (hb1 : n1 ≤ 200000000) (hb2 : n2 ≤ 100000000) :
    Calls Tryd.prog 43 #[.slice a n1 c1, .slice b n2 c2] w fun e w' => e = .returned (.agg (bvs H).toArray) ∧ Below w.heap.size w w' := by
  obtain ⟨iS, zS, hiS, hzS, hcS⟩ := fresh_parts zeroSum
  have HIS := Lib.hid hiS; clear hiS
  have HZS := Lib.hid hzS; clear hzS
  have HCS := Lib.hid hcS; clear hcS
  have HR1 := Lib.hid h1; clear h1
  have HR2 := Lib.hid h2; clear h2
  obtain ⟨X, hX⟩ : ∃ X, turnB 0x36 (kblock l1) ++ l2 = X := ⟨_, rfl⟩
  obtain ⟨G, hG⟩ : ∃ G, wdig X = G := ⟨_, rfl⟩
  obtain ⟨Y, hY⟩ : ∃ Y, turnB 0x5c (kblock l1) ++ G = Y := ⟨_, rfl⟩
  have hYH : wdig Y = H := by rw [← hH, ← hY, ← hG, ← hX]; rfl
  have hXl : X.length = 64 + n2 := by rw [← hX, List.length_append, turnB_length, kblock_length, e2]
  have hGl : G.length = 32 := by rw [← hG, wdig_length]
  have hYl : Y.length = 64 + 32 := by rw [← hY, List.length_append, turnB_length, kblock_length, hGl]
  have bG : (bvs G).length = 32 := by rw [bvs_length]; exact hGl
  have bH : (bvs H).length = 32 := by rw [bvs_length, ← hH]; exact hmac_length _ _
  have HIG := Lib.hid (show (Tryd.prog.info? 26).map (·.size) = some (bvs G).length by rw [bG]; exact sizeSum)
  have HIH := Lib.hid (show (Tryd.prog.info? 26).map (·.size) = some (bvs H).length by rw [bH]; exact sizeSum)
  have HFG := Lib.hid (show 0 + (bvs G).length ≤ (List.replicate 32 (Value.int .u8 0)).toArray.size by rw [bG]; simp)
  have HFH := Lib.hid (show 0 + (bvs H).length ≤ (List.replicate 32 (Value.int .u8 0)).toArray.size by rw [bH]; simp)
  have HGO := Lib.hid (bvs_oneCell G)
  have HHO := Lib.hid (bvs_oneCell H)
  have HBG := Lib.hid bG; clear bG
  have HBH := Lib.hid bH; clear bH
  have HXX := Lib.hid hX; clear hX
  have HGG := Lib.hid hG; clear hG
  have HYY := Lib.hid hY; clear hY
  have HYH := Lib.hid hYH; clear hYH
  have HXL := Lib.hid hXl; clear hXl
  have HGL := Lib.hid hGl; clear hGl
  have HYL := Lib.hid hYl; clear hYl
  have HE1 := Lib.hid e1; clear e1
  have HE2 := Lib.hid e2; clear e2
  clear hH
  go_enter Tryd.func43, Tryd.ntmps43
  (repeat' ((fail_if_success at_builtin); first | (((with_reducible refine wpList_alloc_fresh (w := w) rfl 26 rfl _ iS zS HIS.out HZS.out HCS.out ?_); intro w1 hg1 hB1 hs1; have HG1 := Lib.hid hg1; clear hg1; have HS1 := Lib.hid hs1; clear hs1)) | go_values | go_skip | go_guarded | go_step | go_upon))
  refine (refTurned a b n1 n2 c1 c2 l1 l2 X 0x36 54 w1 rfl HXX.out (HR1.out.below hB1 (Nat.le_refl _)) (HR2.out.below hB1 (Nat.le_refl _)) HE1.out HE2.out hb1 hb2).mono ?_
  rintro _ w2 ⟨a2, k2, rfl, hk2, hr2, hB2, _⟩
  dsimp only
  have HR3 := Lib.hid hr2; clear hr2
  have hB02 : Below w.heap.size w w2 := hB1.trans (hB2.mono hB1.size)
  have hq2 := (hB2.block w.heap.size (by have := HS1.out; omega)).trans HG1.out
  have HQ2 := Lib.hid hq2; clear hq2
  (repeat' ((fail_if_success at_builtin); first | go_values | go_skip | go_guarded | go_step | go_upon))
  refine (refSumOf a2 (64 + n2) k2 X G w2 HGG.out HR3.out HXL.out (by omega)).mono ?_
  rintro _ w3 ⟨rfl, hB3⟩
  dsimp only
  have hB03 : Below w.heap.size w w3 := hB02.trans (hB3.mono hB02.size)
  have hq3 := (hB3.block w.heap.size (Array.getElem?_eq_some_iff.1 HQ2.out).1).trans HQ2.out
  have HQ3 := Lib.hid hq3; clear hq3
  (repeat' ((fail_if_success at_builtin); first | (first | ((with_reducible refine wpList_alloc_fresh (w := w3) rfl 26 rfl _ iS zS HIS.out HZS.out HCS.out ?_); intro w4 hg4 hB4 hs4; have HG4 := Lib.hid hg4; clear hg4; have HS4 := Lib.hid hs4; clear hs4) | ((with_reducible refine wpList_store_blk rfl 26 _ _ rfl w3.heap.size 0 (bvs G) rfl rfl _ _ HG4.out HFG.out HIG.out HGO.out ?_); intro w5 hg5 hG5; have HG5 := Lib.hid hg5; clear hg5)) | go_values | go_skip | go_guarded | go_step | go_upon))
  have hg5 := HG5.out
  rw [splice_whole _ _ (by rw [HBG.out]; simp)] at hg5
  have hB35 : Below w3.heap.size w3 w5 := hB4.grown hG5 (by have := HS4.out; omega) (fun k e => by cases e; exact Nat.le_refl _)
  have hB05 : Below w.heap.size w w5 := hB03.trans (hB35.mono hB03.size)
  have hq5 := (hB35.block w.heap.size (Array.getElem?_eq_some_iff.1 HQ3.out).1).trans HQ3.out
  have HR5 := Lib.hid (rd_row hg5)
  have HQ5 := Lib.hid hq5; clear hq5 hg5
  refine (refTurned a (some ⟨w3.heap.size, 0, none⟩) n1 32 c1 32 l1 G Y 0x5c 92 w5 rfl HYY.out (HR1.out.below hB05 (Nat.le_refl _)) HR5.out HE1.out HGL.out hb1 (by decide)).mono ?_
  rintro _ w6 ⟨a6, k6, rfl, hk6, hr6, hB6, _⟩
  dsimp only
  have HR6 := Lib.hid hr6; clear hr6
  have hB06 : Below w.heap.size w w6 := hB05.trans (hB6.mono hB05.size)
  have hq6 := (hB6.block w.heap.size (Array.getElem?_eq_some_iff.1 HQ5.out).1).trans HQ5.out
  have HQ6 := Lib.hid hq6; clear hq6
  (repeat' ((fail_if_success at_builtin); first | go_values | go_skip | go_guarded | go_step | go_upon))
  refine (refSumOf a6 _ k6 Y H w6 HYH.out HR6.out HYL.out (by decide)).mono ?_
  rintro _ w7 ⟨rfl, hB7⟩
  dsimp only
  have hB07 : Below w.heap.size w w7 := hB06.trans (hB7.mono hB06.size)
  have hq7 := (hB7.block w.heap.size (Array.getElem?_eq_some_iff.1 HQ6.out).1).trans HQ6.out
  have HQ7 := Lib.hid hq7; clear hq7
  (repeat' ((fail_if_success at_builtin); first | (((with_reducible refine wpList_store_blk rfl 26 _ _ rfl w.heap.size 0 (bvs H) rfl rfl _ _ HQ7.out HFH.out HIH.out HHO.out ?_); intro wz hgz hGz; have HGZ := Lib.hid hgz; clear hgz)) | go_values | go_skip | go_guarded | go_step | go_upon))
  have hgz := HGZ.out
  rw [splice_whole _ _ (by rw [HBH.out]; simp)] at hgz
  have hR := run_loadVar_mid (P := Tryd.prog) wz w.heap.size 0 26 (bvs H) _ (rangeAt_whole hgz) Tryd.underlying26 rfl HIH.out
  have HR9 := Lib.hid hR; clear hR
  clear hgz
  exact bodyPost_ret (results_cell rfl _ _ _ ⟨w.heap.size, 0, none⟩ rfl _ HR9.out) rfl ⟨rfl, hB07.grown hGz hB07.size (fun k e => by cases e; exact Nat.le_refl _)⟩

set_option maxHeartbeats 2000000 in
theorem refChain (s : List UInt8) (b : Option Addr) (n2 c2 : Nat) (l2 H : List UInt8) (w : World) (hH : hmac s l2 = H) (hs : s.length = 32) (h2 : RdB w b l2) (e2 : l2.length = n2) (hb2 : n2 ≤ 100000000) :
    Calls Tryd.prog 44 #[.agg (bvs s).toArray, .slice b n2 c2] w fun e w' => e = .returned (.agg (bvs H).toArray) ∧ Below w.heap.size w w' := by
  subst e2
  obtain ⟨iS, zS, hiS, hzS, hcS⟩ := fresh_parts zeroSum
  have HIS := Lib.hid hiS; clear hiS
  have HZS := Lib.hid hzS; clear hzS
  have HCS := Lib.hid hcS; clear hcS
  have HR2 := Lib.hid h2; clear h2
  have hHl : (bvs H).length = 32 := by rw [bvs_length, ← hH]; exact hmac_length _ _
  have HIH := Lib.hid (show (Tryd.prog.info? 26).map (·.size) = some (bvs H).length by rw [hHl]; exact sizeSum)
  have HFH := Lib.hid (show 0 + (bvs H).length ≤ (List.replicate 32 (Value.int .u8 0)).toArray.size by rw [hHl]; simp)
  have HHO := Lib.hid (bvs_oneCell H)
  have HHL := Lib.hid hHl; clear hHl
  have HH := Lib.hid hH; clear hH
  have HSL := Lib.hid hs; clear hs
  obtain ⟨wb, hwb⟩ : ∃ wb, w.alloc (.cells (bvs s).toArray 26) = wb := ⟨_, rfl⟩
  have hgs : wb.heap[w.heap.size]? = some (.cells (bvs s).toArray 26 (0, 0)) := by rw [← hwb]; exact heap_alloc_new w _
  have hsb : wb.heap.size = w.heap.size + 1 := by rw [← hwb]; simp
  have hBb : Below w.heap.size w wb := by rw [← hwb]; exact (Below.refl _ _).alloc (Nat.le_refl _) _
  have HWB := Lib.hid hwb; clear hwb
  have HSB := Lib.hid hsb; clear hsb
  have HGS := Lib.hid hgs; clear hgs
  go_enter Tryd.func44, Tryd.ntmps44
  (repeat' ((fail_if_success at_builtin); first | (((with_reducible refine wpList_alloc_fresh (w := w.alloc (.cells (bvs s).toArray 26)) rfl 26 rfl _ iS zS HIS.out HZS.out HCS.out ?_); rw [HWB.out]; intro w1 hg1 hB1 hs1; rw [HSB.out] at hg1 hs1; have HG1 := Lib.hid hg1; clear hg1; have HS1 := Lib.hid hs1; clear hs1; try rw [HSB.out])) | go_values | go_skip | go_guarded | go_step | go_upon))
  have hB01 : Below w.heap.size w w1 := hBb.trans (hB1.mono (by have := HSB.out; omega))
  have hg1 := (hB1.block w.heap.size (by have := HSB.out; omega)).trans HGS.out
  have HR1 := Lib.hid (rd_row hg1); clear hg1
  refine (refOf (some ⟨w.heap.size, 0, none⟩) b 32 _ 32 c2 s l2 H w1 HH.out HR1.out (HR2.out.below hB01 (Nat.le_refl _)) HSL.out rfl (by decide) hb2).mono ?_
  rintro _ w2 ⟨rfl, hB2⟩
  dsimp only
  have hq2 := (hB2.block (w.heap.size + 1) (by have := HS1.out; omega)).trans HG1.out
  have HQ2 := Lib.hid hq2; clear hq2
  have hB02 : Below w.heap.size w w2 := hB01.trans (hB2.mono hB01.size)
  (repeat' ((fail_if_success at_builtin); first | (((with_reducible refine wpList_store_blk rfl 26 _ _ rfl (w.heap.size + 1) 0 (bvs H) rfl rfl _ _ HQ2.out HFH.out HIH.out HHO.out ?_); intro wz hgz hGz; have HGZ := Lib.hid hgz; clear hgz)) | go_values | go_skip | go_guarded | go_step | go_upon))
  have hgz := HGZ.out
  rw [splice_whole _ _ (by rw [HHL.out]; simp)] at hgz
  have hR := run_loadVar_mid (P := Tryd.prog) wz (w.heap.size + 1) 0 26 (bvs H) _ (rangeAt_whole hgz) Tryd.underlying26 rfl HIH.out
  have HR3 := Lib.hid hR; clear hR
  clear hgz
  exact bodyPost_ret (results_cell rfl _ _ _ ⟨w.heap.size + 1, 0, none⟩ rfl _ HR3.out) rfl ⟨rfl, hB02.grown hGz hB02.size (fun k e => by cases e; exact Nat.le_succ _)⟩

end Go.Proofs.YtdpfemhfmofmlaaDoor
