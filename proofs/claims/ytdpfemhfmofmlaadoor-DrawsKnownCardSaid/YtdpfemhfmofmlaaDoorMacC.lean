/- What package mac computes: a code behind a code. -/
import Derived.Test.YtdpfemhfmofmlaaDoorMacO
namespace Go.Proofs.YtdpfemhfmofmlaaDoor
set_option linter.unusedSimpArgs false
open Go.RowKit
set_option maxRecDepth 10000

set_option maxHeartbeats 2000000 in
theorem macChain (s : List UInt8) (b : Option Addr) (n2 c2 : Nat) (l2 H : List UInt8) (w : World) (hH : hmac s l2 = H) (hT : Tabs w) (hs : s.length = 32) (h2 : RdB w b l2) (e2 : l2.length = n2) (hc2 : n2 ≤ c2) (hb2 : n2 ≤ 100000000) :
    Calls Tryd.prog 42 #[.agg (bvs s).toArray, .slice b n2 c2] w fun e w' => e = .returned (.agg (bvs H).toArray) ∧ Below w.heap.size w w' := by
  subst e2
  obtain ⟨iS, zS, hiS, hzS, hcS⟩ := fresh_parts zeroSum
  have HIS := Lib.hid hiS; clear hiS
  have HZS := Lib.hid hzS; clear hzS
  have HCS := Lib.hid hcS; clear hcS
  have hts := hT.size
  have HT := Lib.hid hT; clear hT
  have HR2 := Lib.hid h2; clear h2
  have hHl : (bvs H).length = 32 := by rw [bvs_length, ← hH]; exact hmac_length _ _
  have HIH := Lib.hid (show (Tryd.prog.info? 26).map (·.size) = some (bvs H).length by rw [hHl]; exact sizeSum)
  have HFH := Lib.hid (show 0 + (bvs H).length ≤ (List.replicate 32 (Value.int .u8 0)).toArray.size by rw [hHl]; simp)
  have HHO := Lib.hid (bvs_oneCell H)
  have HHL := Lib.hid hHl; clear hHl
  have HH := Lib.hid hH; clear hH
  have HSL := Lib.hid hs; clear hs
  obtain ⟨wb, hwb⟩ : ∃ wb, w.alloc (.cells (bvs s).toArray 26) = wb := ⟨_, rfl⟩
  have hgs : wb.heap[w.heap.size]? = some (.cells (bvs s).toArray 26 (0, 0)) := by rw [← hwb]; exact heap_alloc_new w _
  have hsb : wb.heap.size = w.heap.size + 1 := by rw [← hwb]; simp
  have hBb : Below w.heap.size w wb := by rw [← hwb]; exact (Below.refl _ _).alloc (Nat.le_refl _) _
  have HWB := Lib.hid hwb; clear hwb
  have HSB := Lib.hid hsb; clear hsb
  have HGS := Lib.hid hgs; clear hgs
  go_enter Tryd.func42, Tryd.ntmps42
  (repeat' ((fail_if_success at_builtin); first | (((with_reducible refine wpList_alloc_fresh (w := w.alloc (.cells (bvs s).toArray 26)) rfl 26 rfl _ iS zS HIS.out HZS.out HCS.out ?_); rw [HWB.out]; intro w1 hg1 hB1 hs1; rw [HSB.out] at hg1 hs1; have HG1 := Lib.hid hg1; clear hg1; have HS1 := Lib.hid hs1; clear hs1; try rw [HSB.out])) | go_values | go_skip | go_guarded | go_step | go_upon))
  have hB01 : Below w.heap.size w w1 := hBb.trans (hB1.mono (by have := HSB.out; omega))
  have hg1 := (hB1.block w.heap.size (by have := HSB.out; omega)).trans HGS.out
  have HR1 := Lib.hid (rd_row hg1); clear hg1
  refine (macOf (some ⟨w.heap.size, 0, none⟩) b 32 _ 32 c2 s l2 H w1 HH.out (HT.out.below hB01 hts) HR1.out (HR2.out.below hB01 (Nat.le_refl _)) HSL.out rfl (Nat.le_refl _) hc2 (by decide) hb2).mono ?_
  rintro _ w2 ⟨rfl, hB2⟩
  dsimp only
  have hq2 := (hB2.block (w.heap.size + 1) (by have := HS1.out; omega)).trans HG1.out
  have HQ2 := Lib.hid hq2; clear hq2
  have hB02 : Below w.heap.size w w2 := hB01.trans (hB2.mono hB01.size)
  (repeat' ((fail_if_success at_builtin); first | (((with_reducible refine wpList_store_blk rfl 26 _ _ rfl (w.heap.size + 1) 0 (bvs H) rfl rfl _ _ HQ2.out HFH.out HIH.out HHO.out ?_); intro wz hgz hGz; have HGZ := Lib.hid hgz; clear hgz)) | go_values | go_skip | go_guarded | go_step | go_upon))
  have hgz := HGZ.out
  rw [splice_whole _ _ (by rw [HHL.out]; simp)] at hgz
  have hR := run_loadVar_mid (P := Tryd.prog) wz (w.heap.size + 1) 0 26 (bvs H) _ (rangeAt_whole hgz) Tryd.underlying26 rfl HIH.out
  have HR3 := Lib.hid hR; clear hR
  clear hgz
  exact bodyPost_ret (results_cell rfl _ _ _ ⟨w.heap.size + 1, 0, none⟩ rfl _ HR3.out) rfl ⟨rfl, hB02.grown hGz hB02.size (fun k e => by cases e; exact Nat.le_succ _)⟩

end Go.Proofs.YtdpfemhfmofmlaaDoor
