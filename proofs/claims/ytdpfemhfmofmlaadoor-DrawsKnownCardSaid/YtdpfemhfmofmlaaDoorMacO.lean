/- What package mac computes: a code. -/
import Derived.Test.YtdpfemhfmofmlaaDoorMacB
import Derived.Test.YtdpfemhfmofmlaaDoorMacD
namespace Go.Proofs.YtdpfemhfmofmlaaDoor
set_option linter.unusedSimpArgs false
open Go.RowKit
set_option maxRecDepth 10000

def hmac (key b : List UInt8) : List UInt8 := wdig (turnB 0x5c (kblock key) ++ wdig (turnB 0x36 (kblock key) ++ b))
theorem hmac_length (key b : List UInt8) : (hmac key b).length = 32 := wdig_length _

theorem kblock_length (l : List UInt8) : (kblock l).length = 64 := by
  refine kpad_length _ ?_
  unfold kshort
  split
  · rw [wdig_length]; omega
  · omega

theorem rd_row {w : World} {g : Nat} {l : List UInt8} {t : TypeId} {fr : Nat × Nat} (h : w.heap[g]? = some (.cells (bvs l).toArray t fr)) : RdB w (some ⟨g, 0, none⟩) l :=
  ⟨fun i hi => ⟨_, _, rfl, by rw [Nat.zero_add, cell_of_row w g i _ _ _ h]; simp⟩⟩

set_option maxHeartbeats 2000000 in
theorem macOf (a b : Option Addr) (n1 n2 c1 c2 : Nat) (l1 l2 H : List UInt8) (w : World) (hH : hmac l1 l2 = H) (hT : Tabs w) (h1 : RdB w a l1) (h2 : RdB w b l2) (e1 : l1.length = n1) (e2 : l2.length = n2) (hc1 : n1 ≤ c1) (hc2 : n2 ≤ c2)
    (hb1 : n1 ≤ 200000000) (hb2 : n2 ≤ 100000000) :
    Calls Tryd.prog 39 #[.slice a n1 c1, .slice b n2 c2] w fun e w' => e = .returned (.agg (bvs H).toArray) ∧ Below w.heap.size w w' := by
  subst e1 e2
  obtain ⟨iS, zS, hiS, hzS, hcS⟩ := fresh_parts zeroSum
  have HIS := Lib.hid hiS; clear hiS
  have HZS := Lib.hid hzS; clear hzS
  have HCS := Lib.hid hcS; clear hcS
  obtain ⟨iK, zK, hiK, hzK, hcK⟩ := fresh_parts zeroK64
  have HIK := Lib.hid hiK; clear hiK
  have HZK := Lib.hid hzK; clear hzK
  have HCK := Lib.hid hcK; clear hcK
  have hts := hT.size
  have HT := Lib.hid hT; clear hT
  have HR1 := Lib.hid h1; clear h1
  have HR2 := Lib.hid h2; clear h2
  obtain ⟨K, hK⟩ : ∃ K, kblock l1 = K := ⟨_, rfl⟩
  have hKl : K.length = 64 := by rw [← hK]; exact kblock_length _
  obtain ⟨X, hX⟩ : ∃ X, turnB 0x36 K = X := ⟨_, rfl⟩
  obtain ⟨Y, hY⟩ : ∃ Y, turnB 0x5c K = Y := ⟨_, rfl⟩
  have hXl : X.length = 64 := by rw [← hX, turnB_length, hKl]
  have hYl : Y.length = 64 := by rw [← hY, turnB_length, hKl]
  obtain ⟨G, hG⟩ : ∃ G, wdig (X ++ l2) = G := ⟨_, rfl⟩
  have hGl : G.length = 32 := by rw [← hG, wdig_length]
  have hHH : wdig (Y ++ G) = H := by rw [← hH, ← hG, ← hX, ← hY, ← hK]; rfl
  have hHl : H.length = 32 := by rw [← hHH, wdig_length]
  have bX : (bvs X).length = 64 := by rw [bvs_length]; exact hXl
  have bY : (bvs Y).length = 64 := by rw [bvs_length]; exact hYl
  have bG : (bvs G).length = 32 := by rw [bvs_length]; exact hGl
  have bH : (bvs H).length = 32 := by rw [bvs_length]; exact hHl
  have HIX := Lib.hid (show (Tryd.prog.info? 104).map (·.size) = some (bvs X).length by rw [bX]; exact sizeK64)
  have HIY := Lib.hid (show (Tryd.prog.info? 104).map (·.size) = some (bvs Y).length by rw [bY]; exact sizeK64)
  have HIG := Lib.hid (show (Tryd.prog.info? 26).map (·.size) = some (bvs G).length by rw [bG]; exact sizeSum)
  have HIH := Lib.hid (show (Tryd.prog.info? 26).map (·.size) = some (bvs H).length by rw [bH]; exact sizeSum)
  have HFX := Lib.hid (show 0 + (bvs X).length ≤ (List.replicate 64 (Value.int .u8 0)).toArray.size by rw [bX]; simp)
  have HFY := Lib.hid (show 0 + (bvs Y).length ≤ (List.replicate 64 (Value.int .u8 0)).toArray.size by rw [bY]; simp)
  have HFG := Lib.hid (show 0 + (bvs G).length ≤ (List.replicate 32 (Value.int .u8 0)).toArray.size by rw [bG]; simp)
  have HFH := Lib.hid (show 0 + (bvs H).length ≤ (List.replicate 32 (Value.int .u8 0)).toArray.size by rw [bH]; simp)
  have HXO := Lib.hid (bvs_oneCell X)
  have HYO := Lib.hid (bvs_oneCell Y)
  have HGO := Lib.hid (bvs_oneCell G)
  have HHO := Lib.hid (bvs_oneCell H)
  have HBX := Lib.hid bX; clear bX
  have HBY := Lib.hid bY; clear bY
  have HBG := Lib.hid bG; clear bG
  have HBH := Lib.hid bH; clear bH
  have HXL := Lib.hid hXl; clear hXl
  have HYL := Lib.hid hYl; clear hYl
  have HGL := Lib.hid hGl; clear hGl
  have HXX := Lib.hid hX; clear hX
  have HYY := Lib.hid hY; clear hY
  have HGG := Lib.hid hG; clear hG
  have HHH := Lib.hid hHH; clear hHH
  have HK := Lib.hid hK; clear hK
  clear hH hHl hKl
  go_enter Tryd.func39, Tryd.ntmps39
  (repeat' ((fail_if_success at_builtin); first | (((with_reducible refine wpList_alloc_fresh (w := w) rfl 26 rfl _ iS zS HIS.out HZS.out HCS.out ?_); intro w1 hg1 hB1 hs1; have HG1 := Lib.hid hg1; clear hg1; have HS1 := Lib.hid hs1; clear hs1)) | go_values | go_skip | go_guarded | go_step | go_upon))
  refine (macBlocks a _ c1 l1 K w1 HK.out (HT.out.below hB1 hts) (HR1.out.below hB1 (Nat.le_refl _)) rfl hc1 hb1).mono ?_
  rintro _ w2 ⟨rfl, hB2⟩
  dsimp only
  rw [HXX.out, HYY.out]
  have hB02 : Below w.heap.size w w2 := hB1.trans (hB2.mono hB1.size)
  have hq2 := (hB2.block w.heap.size (by have := HS1.out; omega)).trans HG1.out
  have HQ2 := Lib.hid hq2; clear hq2
  (repeat' ((fail_if_success at_builtin); (fail_if_success (show wpList _ _ _ ({ dst := some 13, op := _, type := _, pos := _, after := _, guard := _ } :: _) _ _)); first | (first | ((with_reducible refine wpList_alloc_fresh (w := w2) rfl 104 rfl _ iK zK HIK.out HZK.out HCK.out ?_); intro w3 hg3 hB3 hs3; have HG3 := Lib.hid hg3; clear hg3; have HS3 := Lib.hid hs3; clear hs3) | ((with_reducible refine wpList_alloc_fresh (w := w3) rfl 104 rfl _ iK zK HIK.out HZK.out HCK.out ?_); intro w4 hg4 hB4 hs4; rw [HS3.out] at hg4 hs4; have HG4 := Lib.hid hg4; clear hg4; have HS4 := Lib.hid hs4; clear hs4; try rw [HS3.out]) | ((with_reducible refine wpList_store_blk rfl 104 _ _ rfl w2.heap.size 0 (bvs X) rfl rfl _ _ (show w4.heap[w2.heap.size]? = some _ from (hB4.block _ (by have := HS3.out; omega)).trans HG3.out) HFX.out HIX.out HXO.out ?_); intro w5 hg5 hG5; have HG5 := Lib.hid hg5; clear hg5) | ((with_reducible refine wpList_store_blk rfl 104 _ _ rfl (w2.heap.size + 1) 0 (bvs Y) rfl rfl _ _ (show w5.heap[w2.heap.size + 1]? = some _ from (hG5.block _ (by have := HS4.out; omega) (by simp)).trans HG4.out) HFY.out HIY.out HYO.out ?_); intro w6 hg6 hG6; have HG6 := Lib.hid hg6; clear hg6)) | go_values | go_skip | go_guarded | go_step | go_upon))
  have hgx := HG5.out
  rw [splice_whole _ _ (by rw [HBX.out]; simp)] at hgx
  have hgy := HG6.out
  rw [splice_whole _ _ (by rw [HBY.out]; simp)] at hgy
  have hz2 : w.heap.size < w2.heap.size := (Array.getElem?_eq_some_iff.1 HQ2.out).1
  have hx6 := (hG6.block w2.heap.size (Array.getElem?_eq_some_iff.1 hgx).1 (by simp)).trans hgx
  have hB26 : Below w2.heap.size w2 w6 := ((hB3.trans (hB4.mono (by have := HS3.out; omega))).grown hG5 (by have := HS4.out; omega) (fun k e => by cases e; exact Nat.le_refl _)).grown hG6 (by have := HS4.out; have := hG5.size; omega) (fun k e => by cases e; exact Nat.le_succ _)
  have hB06 : Below w.heap.size w w6 := hB02.trans (hB26.mono hB02.size)
  have hq6 := (hB26.block w.heap.size hz2).trans HQ2.out
  have HX6 := Lib.hid hx6; clear hx6
  have HY6 := Lib.hid hgy; clear hgy
  have HQ6 := Lib.hid hq6; clear hq6
  clear hgx HG5 HG6 HG3 HG4 hG5 hG6 hB3 hB4
  (repeat' ((fail_if_success at_builtin); first | go_values | go_skip | go_guarded | go_step | go_upon))
  refine (macDigest (some ⟨w2.heap.size, 0, none⟩) b 64 _ 64 c2 X l2 G w6 HGG.out (HT.out.below hB06 hts) (rd_row HX6.out) (HR2.out.below hB06 (Nat.le_refl _)) HXL.out rfl (Nat.le_refl _) hc2 (by decide) (by omega)).mono ?_
  rintro _ w7 ⟨rfl, hB7⟩
  dsimp only
  have hB07 : Below w.heap.size w w7 := hB06.trans (hB7.mono hB06.size)
  have hy7 := (hB7.block _ (Array.getElem?_eq_some_iff.1 HY6.out).1).trans HY6.out
  have hq7 := (hB7.block _ (Array.getElem?_eq_some_iff.1 HQ6.out).1).trans HQ6.out
  have HY7 := Lib.hid hy7; clear hy7
  have HQ7 := Lib.hid hq7; clear hq7
  (repeat' ((fail_if_success at_builtin); first | (first | ((with_reducible refine wpList_alloc_fresh (w := w7) rfl 26 rfl _ iS zS HIS.out HZS.out HCS.out ?_); intro w8 hg8 hB8 hs8; have HG8 := Lib.hid hg8; clear hg8; have HS8 := Lib.hid hs8; clear hs8) | ((with_reducible refine wpList_store_blk rfl 26 _ _ rfl w7.heap.size 0 (bvs G) rfl rfl _ _ HG8.out HFG.out HIG.out HGO.out ?_); intro w9 hg9 hG9; have HG9 := Lib.hid hg9; clear hg9)) | go_values | go_skip | go_guarded | go_step | go_upon))
  have hg9 := HG9.out
  rw [splice_whole _ _ (by rw [HBG.out]; simp)] at hg9
  have hB79 : Below w7.heap.size w7 w9 := hB8.grown hG9 (by have := HS8.out; omega) (fun k e => by cases e; exact Nat.le_refl _)
  have hB09 : Below w.heap.size w w9 := hB07.trans (hB79.mono hB07.size)
  have hy9 := (hB79.block _ (Array.getElem?_eq_some_iff.1 HY7.out).1).trans HY7.out
  have hq9 := (hB79.block _ (Array.getElem?_eq_some_iff.1 HQ7.out).1).trans HQ7.out
  have HG9' := Lib.hid hg9; clear hg9
  have HY9 := Lib.hid hy9; clear hy9
  have HQ9 := Lib.hid hq9; clear hq9
  clear HG9 HG8 hB8 hG9
  go_still_tail 2, (by kernel_rfl)
  change wpList _ _ _ _ _ w9.drew
  (repeat' ((fail_if_success at_builtin); first | go_values | go_skip | go_guarded | go_step | go_upon))
  refine (macDigest (some ⟨w2.heap.size + 1, 0, none⟩) (some ⟨w7.heap.size, 0, none⟩) 64 32 64 32 Y G H w9.drew HHH.out (HT.out.below hB09.drew hts) (rd_row (w := w9.drew) HY9.out) (rd_row (w := w9.drew) HG9'.out) HYL.out HGL.out (Nat.le_refl _) (Nat.le_refl _) (by decide) (by decide)).mono ?_
  rintro _ wa ⟨rfl, hBa⟩
  dsimp only
  have hqa : wa.heap[w.heap.size]? = _ := (hBa.block _ (Array.getElem?_eq_some_iff.1 HQ9.out).1).trans HQ9.out
  have HQA := Lib.hid hqa; clear hqa
  have hB0a : Below w.heap.size w wa := hB09.drew.trans (hBa.mono hB09.size)
  (repeat' ((fail_if_success at_builtin); first | (((with_reducible refine wpList_store_blk rfl 26 _ _ rfl w.heap.size 0 (bvs H) rfl rfl _ _ HQA.out HFH.out HIH.out HHO.out ?_); intro wz hgz hGz; have HGZ := Lib.hid hgz; clear hgz)) | go_values | go_skip | go_guarded | go_step | go_upon))
  have hgz := HGZ.out
  rw [splice_whole _ _ (by rw [HBH.out]; simp)] at hgz
  have hR := run_loadVar_mid (P := Tryd.prog) wz w.heap.size 0 26 (bvs H) _ (rangeAt_whole hgz) Tryd.underlying26 rfl HIH.out
  have HR3 := Lib.hid hR; clear hR
  clear hgz
  exact bodyPost_ret (results_cell rfl _ _ _ ⟨w.heap.size, 0, none⟩ rfl _ HR3.out) rfl ⟨rfl, hB0a.grown hGz hB0a.size (fun k e => by cases e; exact Nat.le_refl _)⟩

end Go.Proofs.YtdpfemhfmofmlaaDoor
