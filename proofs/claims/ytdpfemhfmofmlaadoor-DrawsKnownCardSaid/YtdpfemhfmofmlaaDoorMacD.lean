/- What package mac computes: the digest of two rows, one behind the other. -/
import Derived.Test.YtdpfemhfmofmlaaDoorShaTwo
namespace Go.Proofs.YtdpfemhfmofmlaaDoor
set_option linter.unusedSimpArgs false
open Go.RowKit
set_option maxRecDepth 10000

set_option maxHeartbeats 1000000 in
theorem macDigest (a b : Option Addr) (n1 n2 c1 c2 : Nat) (l1 l2 D : List UInt8) (w : World) (hD : wdig (l1 ++ l2) = D) (hT : Tabs w) (h1 : RdB w a l1) (h2 : RdB w b l2) (e1 : l1.length = n1) (e2 : l2.length = n2) (hc1 : n1 ≤ c1) (hc2 : n2 ≤ c2)
    (hb1 : n1 ≤ 200000000) (hb2 : n2 ≤ 200000000) :
    Calls Tryd.prog 90 #[.slice a n1 c1, .slice b n2 c2] w fun e w' => e = .returned (.agg (bvs D).toArray) ∧ Below w.heap.size w w' := by
  subst e1 e2
  obtain ⟨iS, zS, hiS, hzS, hcS⟩ := fresh_parts zeroSum
  have HIS := Lib.hid hiS; clear hiS
  have HZS := Lib.hid hzS; clear hzS
  have HCS := Lib.hid hcS; clear hcS
  have HT := Lib.hid hT; clear hT
  have HR1 := Lib.hid h1; clear h1
  have HR2 := Lib.hid h2; clear h2
  have hDl : (bvs D).length = 32 := by rw [bvs_length, ← hD, wdig_length]
  have HD := Lib.hid hD; clear hD
  have hiD : (Tryd.prog.info? 26).map (·.size) = some (bvs D).length := by rw [hDl]; exact sizeSum
  have hfD : 0 + (bvs D).length ≤ (List.replicate 32 (Value.int .u8 0)).toArray.size := by rw [hDl]; simp
  have HID := Lib.hid hiD; clear hiD
  have HFD := Lib.hid hfD; clear hfD
  have HDO := Lib.hid (bvs_oneCell D)
  have HDL := Lib.hid hDl; clear hDl
  go_enter Tryd.func90, Tryd.ntmps90
  (repeat' ((fail_if_success at_builtin); first | (((with_reducible refine wpList_alloc_fresh (w := w) rfl 26 rfl _ iS zS HIS.out HZS.out HCS.out ?_); intro w1 hg1 hB1 hs1; have HG1 := Lib.hid hg1; clear hg1; have HS1 := Lib.hid hs1; clear hs1)) | go_values | go_skip | go_guarded | go_step | go_upon))
  have hts := HT.out.size
  refine (hNew w1 (HT.out.below hB1 hts)).mono ?_
  rintro _ w2 ⟨rfl, hh2, hB2, hs2⟩
  dsimp only
  have hB02 : Below w.heap.size w w2 := hB1.trans (hB2.mono hB1.size)
  have hq2 := (hB2.block w.heap.size (by have := HS1.out; omega)).trans HG1.out
  have HS2 := Lib.hid hs2; clear hs2
  have HH2 := Lib.hid hh2; clear hh2
  have HQ2 := Lib.hid hq2; clear hq2
  have hle := hB1.size
  (repeat' ((fail_if_success at_builtin); first | go_values | go_skip | go_guarded | go_step | go_upon))
  refine (hWriteOld w w1.heap.size a _ c1 [] l1 w2 HT.out hB02 hle HH2.out HR1.out rfl hc1 (by simp; omega)).mono ?_
  rintro _ w3 ⟨rfl, hh3, hB3, hF3⟩
  dsimp only
  rw [List.nil_append] at hh3
  have hq3 := (hF3.block w.heap.size (by have := HS1.out; have := HS2.out; omega) (by have := HS1.out; omega)).trans HQ2.out
  have HH3 := Lib.hid hh3; clear hh3
  have HQ3 := Lib.hid hq3; clear hq3
  have hz3 := hF3.size
  (repeat' ((fail_if_success at_builtin); first | go_values | go_skip | go_guarded | go_step | go_upon))
  refine (hWriteOld w w1.heap.size b _ c2 l1 l2 w3 HT.out hB3 hle HH3.out HR2.out rfl hc2 (by omega)).mono ?_
  rintro _ w4 ⟨rfl, hh4, hB4, hF4⟩
  dsimp only
  have hq4 := (hF4.block w.heap.size (by have := HS1.out; have := HS2.out; omega) (by have := HS1.out; omega)).trans HQ3.out
  have HH4 := Lib.hid hh4; clear hh4
  have HQ4 := Lib.hid hq4; clear hq4
  (repeat' ((fail_if_success at_builtin); first | go_values | go_skip | go_guarded | go_step | go_upon))
  refine (hSumOf w1.heap.size (l1 ++ l2) D w4 HD.out (HT.out.below hB4 hts) HH4.out (by rw [List.length_append]; omega)).mono ?_
  rintro _ w5 ⟨rfl, hB5⟩
  dsimp only
  have hq5 := (hB5.block w.heap.size (Array.getElem?_eq_some_iff.1 HQ4.out).1).trans HQ4.out
  have HQ5 := Lib.hid hq5; clear hq5
  have hB05 : Below w.heap.size w w5 := hB4.trans (hB5.mono hB4.size)
  (repeat' ((fail_if_success at_builtin); first | (((with_reducible refine wpList_store_blk rfl 26 _ _ rfl w.heap.size 0 (bvs D) rfl rfl _ _ HQ5.out HFD.out HID.out HDO.out ?_); intro wz hgz hGz; have HGZ := Lib.hid hgz; clear hgz)) | go_values | go_skip | go_guarded | go_step | go_upon))
  have hgz := HGZ.out
  rw [splice_whole _ _ (by rw [HDL.out]; simp)] at hgz
  have hR := run_loadVar_mid (P := Tryd.prog) wz w.heap.size 0 26 (bvs D) _ (rangeAt_whole hgz) Tryd.underlying26 rfl HID.out
  have HR3 := Lib.hid hR; clear hR
  clear hgz
  exact bodyPost_ret (results_cell rfl _ _ _ ⟨w.heap.size, 0, none⟩ rfl _ HR3.out) rfl ⟨rfl, hB05.grown hGz hB05.size (fun k e => by cases e; exact Nat.le_refl _)⟩

end Go.Proofs.YtdpfemhfmofmlaaDoor
