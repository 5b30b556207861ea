/- What package sealeryref01 computes: the sum of bytes. -/
import Derived.Test.YtdpfemhfmofmlaaDoorRefRow
import Derived.Test.YtdpfemhfmofmlaaDoorRefBlock
import Derived.Test.YtdpfemhfmofmlaaDoorHashSum
namespace Go.Proofs.YtdpfemhfmofmlaaDoor
set_option linter.unusedSimpArgs false
open Go.RowKit
set_option maxRecDepth 10000

theorem pow_byte (X r : Nat) (hr : r ≤ 3) : ((X : Int) / 2 ^ (24 - 8 * r)) % 256 = ((X / 256 ^ (3 - r) : Nat) : Int) % 256 := by
  have : r = 0 ∨ r = 1 ∨ r = 2 ∨ r = 3 := by omega
  rcases this with rfl | rfl | rfl | rfl
  · show (X : Int) / 16777216 % 256 = ((X / 16777216 : Nat) : Int) % 256; omega
  · show (X : Int) / 65536 % 256 = ((X / 65536 : Nat) : Int) % 256; omega
  · show (X : Int) / 256 % 256 = ((X / 256 : Nat) : Int) % 256; omega
  · show (X : Int) / 1 % 256 = ((X / 1 : Nat) : Int) % 256; omega

structure RSum1 (m : List UInt8) (w0 : World) (v i : Value) (wr : World) : Prop where
  out : ∃ (k : Nat) (a : Option Addr) (c : Nat), 64 * k ≤ m.length ∧ i = .int .i64 ((64 * k : Nat) : Int) ∧ v = .slice a 8 c ∧ 8 ≤ c ∧ RdC wr a (wvs (wst m k)) ∧ Below w0.heap.size w0 wr

structure RSum2 (s : List UInt32) (z : Nat) (w0 : World) (i : Value) (wr : World) : Prop where
  out : ∃ k : Nat, k ≤ 32 ∧ i = .int .i64 k ∧ Below w0.heap.size w0 wr ∧ wr.heap[z]? = some (.cells (outCells s k).toArray 26 (0, 0)) ∧ w0.heap.size ≤ z

set_option maxHeartbeats 2000000 in
theorem refSum (a : Option Addr) (n c : Nat) (l : List UInt8) (w : World) (h : RdB w a l) (en : l.length = n) (hn : n ≤ 400000000) :
    Calls Tryd.prog 25 #[.slice a n c] w fun e w' => e = .returned (.agg (bvs (wdig l)).toArray) ∧ Below w.heap.size w w' := by
  subst en
  obtain ⟨iS, zS, hiS, hzS, hcS⟩ := fresh_parts zeroSum
  have HIS := Lib.hid hiS; clear hiS
  have HZS := Lib.hid hzS; clear hzS
  have HCS := Lib.hid hcS; clear hcS
  have HR := Lib.hid h; clear h
  go_enter Tryd.func25, Tryd.ntmps25
  (repeat' ((fail_if_success at_builtin); first | (((with_reducible refine wpList_alloc_fresh (w := w) rfl 26 rfl _ iS zS HIS.out HZS.out HCS.out ?_); intro w1 hg1 hB1 hs1; have HG1 := Lib.hid hg1; clear hg1; have HS1 := Lib.hid hs1; clear hs1)) | go_values | go_skip | go_guarded | go_step | go_upon))
  refine (refRow a _ c l w1 (HR.out.below hB1 (Nat.le_refl _)) rfl hn).mono ?_
  rintro _ w2 ⟨a2, c2, rfl, hc2, hr2, hB2, _⟩
  dsimp only
  have hB02 : Below w.heap.size w w2 := hB1.trans (hB2.mono hB1.size)
  have hq2 := (hB2.block w.heap.size (by have := HS1.out; omega)).trans HG1.out
  have hzl : w.heap.size < w2.heap.size := by have := HS1.out; have := hB2.size; omega
  obtain ⟨m, hm⟩ : ∃ m, wpad l = m := ⟨_, rfl⟩
  rw [hm] at hr2 hc2 ⊢
  have hmod : m.length % 64 = 0 := by rw [← hm]; exact wpad_mod l
  have hml : m.length ≤ 500000000 := by rw [← hm, wpad_length]; unfold wzeros; omega
  have hfin : wdig l = wbytes (wst m (m.length / 64)) := by unfold wdig wfin; rw [hm]
  obtain ⟨N, hN⟩ : ∃ N, m.length / 64 = N := ⟨_, rfl⟩
  have hNm : m.length = 64 * N := by omega
  obtain ⟨M, hM⟩ : ∃ M, m.length = M := ⟨_, rfl⟩
  rw [hN] at hfin
  rw [hM] at hc2 hml hNm ⊢
  have HFIN := Lib.hid hfin; clear hfin
  have HNM := Lib.hid hNm; clear hNm
  have HM := Lib.hid hM; clear hM hN hmod hm
  have HQ2 := Lib.hid hq2; clear hq2
  have HR2 := Lib.hid hr2; clear hr2
  (repeat' ((fail_if_success at_builtin); first | go_values | go_skip | go_guarded | go_step | go_upon))
  refine (starts w2).mono ?_
  rintro _ w3 ⟨a3, c3, rfl, hc3, hr3, hB3, _⟩
  dsimp only
  have hB03 : Below w.heap.size w w3 := hB02.trans (hB3.mono hB02.size)
  have hq3 := (hB3.block w.heap.size hzl).trans HQ2.out
  have hr23 := HR2.out.below hB3 (Nat.le_refl _)
  have HQ3 := Lib.hid hq3; clear hq3
  have HR23 := Lib.hid hr23; clear hr23
  have HR3 := Lib.hid hr3; clear hr3
  (repeat' ((fail_if_success at_builtin); first | go_values | go_skip | go_guarded | go_step | go_upon))
  go_loopw [4, 5] (fun v i wr => RSum1 m w3 v i wr) (fun _ i _ => M - (intOf i).toNat)
  case atStart => exact ⟨⟨0, a3, c3, by omega, rfl, rfl, hc3, HR3.out, Below.refl _ _⟩⟩
  case round =>
    obtain ⟨⟨k, ha, hc, hk, rfl, rfl, hhc, hrh, hB⟩⟩ := hrel
    have hkM : 64 * k ≤ M := by rw [← HM.out]; exact hk
    have hnm := HNM.out
    by_cases hlt : k < N
    · obtain ⟨i, hi⟩ : ∃ i, 64 * k = i := ⟨_, rfl⟩
      have hiM : i + 64 ≤ M := by omega
      rw [hi]
      obtain ⟨rg, ro, rfl, hrl⟩ := HR23.out.lt (by rw [bvs_length, HM.out]; omega)
      have hblk : RdB wr (some ⟨rg, ro + i, none⟩) ((m.drop i).take 64) := ((HR23.out.below hB (Nat.le_refl _)).dropB i (fun _ => by simp [Addr.add_lit])).takeB 64
      have hbl : ((m.drop i).take 64).length = 64 := by rw [List.length_take, List.length_drop, HM.out]; omega
      have hstep : wst m (k + 1) = wblock (wst m k) ((m.drop i).take 64) := by rw [wst, hi]
      have hwl := wst_length m k
      have b1 : (0 : Int) ≤ (i : Int) ∧ (i : Int) + 64 ≤ (M : Int) := by omega
      have b2 : (i : Int) < (M : Int) := by omega
      have b3 : (M : Int) ≤ (c2 : Int) := by omega
      have m64 : IntKind.i64.wrap ((i : Int) + 64) = (i : Int) + 64 := IntWalk.i64_in _ (by omega)
      have hcne : ¬ c2 = i := by omega
      have HBLK := Lib.hid hblk; clear hblk
      have HBL := Lib.hid hbl; clear hbl
      have HST := Lib.hid hstep; clear hstep
      have HWL := Lib.hid hwl; clear hwl
      have HRH := Lib.hid hrh; clear hrh
      have HI := Lib.hid hi; clear hi hnm
      (repeat' ((fail_if_success at_builtin); first | go_values | go_skip | go_guarded | go_step | go_upon))
      refine (refBlock ha _ hc _ (wst m k) _ wr HRH.out HWL.out hhc HBLK.out HBL.out).mono ?_
      rintro _ w5 ⟨a5, c5, rfl, hc5, hr5, hB5, _⟩
      dsimp only
      rw [← HST.out] at hr5
      have HR5 := Lib.hid hr5; clear hr5
      (repeat' ((fail_if_success at_builtin); first | go_values | go_skip | go_guarded | go_step | go_upon))
      go_roundw
      case rel => exact ⟨⟨k + 1, a5, c5, by rw [HM.out]; have := HI.out; omega, by have := HI.out; congr 1; omega, rfl, hc5, HR5.out, hB.trans (hB5.mono hB.size)⟩⟩
      case measure => simp [intOf]; omega
    · obtain ⟨wo, rfl⟩ : ∃ wo : World, wo = wr := ⟨_, rfl⟩
      have hkN : k = N := by omega
      rw [hkN] at hrh
      obtain ⟨i, hi⟩ : ∃ i, 64 * k = i := ⟨_, rfl⟩
      rw [hi]
      have b2 : ¬ ((i : Int) < (M : Int)) := by omega
      have bi : (0 : Int) ≤ (i : Int) ∧ (i : Int) ≤ 500000000 := by omega
      obtain ⟨s, hs⟩ : ∃ s, wst m N = s := ⟨_, rfl⟩
      have hsl : s.length = 8 := by rw [← hs, wst_length]
      rw [hs] at hrh
      have hfin2 := HFIN.out
      rw [hs] at hfin2
      have hB0r : Below w.heap.size w wo := hB03.trans (hB.mono hB03.size)
      have hqr := (hB.block w.heap.size (by have := hB3.size; omega)).trans HQ3.out
      have HSL := Lib.hid hsl; clear hsl
      have HF2 := Lib.hid hfin2; clear hfin2
      have HRH := Lib.hid hrh; clear hrh
      have HQR := Lib.hid hqr; clear hqr hs hnm hi hkN
      (repeat' ((fail_if_success at_builtin); first | (((with_reducible refine wpList_alloc_fresh (w := wo) rfl 26 rfl _ iS zS HIS.out HZS.out HCS.out ?_); intro w6 hg6 hB6 hs6; have HG6 := Lib.hid hg6; clear hg6; have HS6 := Lib.hid hs6; clear hs6)) | go_values | go_skip | go_guarded | go_step | go_upon))
      have hbz : Below wo.heap.size wo w6 := hB6
      go_loopw [7] (fun i wq => RSum2 s wo.heap.size wo i wq) (fun i _ => 32 - (intOf i).toNat)
      case atStart => exact ⟨⟨0, by omega, rfl, hbz, by rw [outCells_zero]; exact HG6.out, Nat.le_refl _⟩⟩
      case round =>
        obtain ⟨⟨j, hj, rfl, hBq, hg, _⟩⟩ := hrel
        obtain ⟨sg, so, rfl, hsgl⟩ := HRH.out.lt (by rw [wvs_length, HSL.out]; omega)
        by_cases hlt32 : j < 32
        · obtain ⟨p, hp⟩ : ∃ p, j / 4 = p := ⟨_, rfl⟩
          obtain ⟨q, hqq⟩ : ∃ q, j % 4 = q := ⟨_, rfl⟩
          have hp' : (j : Int) / 4 = (p : Int) := by omega
          have hq' : (j : Int) % 4 = (q : Int) := by omega
          have bp : (0 : Int) ≤ (p : Int) ∧ (p : Int) < 8 := by omega
          have bq : (0 : Int) ≤ (q : Int) ∧ (q : Int) ≤ 3 := by omega
          have bj : (0 : Int) ≤ (j : Int) ∧ (j : Int) < 32 := by omega
          obtain ⟨x, hx⟩ : ∃ x, s[p]?.getD 0 = x := ⟨_, rfl⟩
          have cp := cell_of_rd (HRH.out.below hBq (Nat.le_refl _)) p (by rw [HSL.out]; omega)
          rw [hx] at cp
          have bx := x.toNat_lt
          obtain ⟨X, hX⟩ : ∃ X, x.toNat = X := ⟨_, rfl⟩
          rw [hX] at cp bx
          have hq3 : q ≤ 3 := by omega
          have hpb := pow_byte X q hq3
          have hstep := outCells_step s j hlt32 x (by rw [hp]; exact hx) (24 - 8 * q) (by rw [hqq])
          rw [hX, hpb] at hstep
          have hc1 : wr.cell? ⟨wo.heap.size, j, none⟩ = some (Value.int .u8 0) := (cell_of_row wr wo.heap.size j _ _ _ hg).trans (outCells_get s j hlt32)
          have hf1 := frozen_of_row wr wo.heap.size j _ _ hg
          have HG := Lib.hid hg; clear hg
          have HST := Lib.hid hstep; clear hstep hpb hx hX hp hqq
          (repeat' ((fail_if_success at_builtin); first | go_values | go_skip | go_guarded | go_step | go_upon))
          go_loop [8, 9] (fun y i => ∃ k : Nat, q ≤ k ∧ k ≤ 3 ∧ i = .int .i64 k ∧ y = .int .u32 ((X / 256 ^ (k - q) : Nat) : Int)) (fun _ i => 3 - (intOf i).toNat)
          case atStart => exact ⟨q, Nat.le_refl _, hq3, by first | rfl | rw [hq'], by simp⟩
          case round =>
            obtain ⟨k2, hk2, hk3, rfl, rfl⟩ := hrel
            obtain ⟨Y, hY⟩ : ∃ Y, X / 256 ^ (k2 - q) = Y := ⟨_, rfl⟩
            rw [hY]
            have hYb : Y < 4294967296 := by rw [← hY]; exact Nat.lt_of_le_of_lt (Nat.div_le_self _ _) (by omega)
            by_cases h3 : k2 < 3
            · obtain ⟨Y', hY'⟩ : ∃ Y, X / 256 ^ (k2 - q + 1) = Y := ⟨_, rfl⟩
              have hd := div_step X (k2 - q)
              rw [hY, hY'] at hd
              have hYb' : Y' < 4294967296 := by rw [← hY']; exact Nat.lt_of_le_of_lt (Nat.div_le_self _ _) (by omega)
              have HYE := Lib.hid hY'; clear hY' hY
              (repeat' ((fail_if_success at_builtin); first | go_values | go_skip | go_guarded | go_step | go_upon))
              go_round
              case rel => exact ⟨k2 + 1, by omega, by omega, by go_num, by rw [show k2 + 1 - q = k2 - q + 1 by omega, HYE.out]⟩
              case measure => simp [intOf]; omega
            · have hk : k2 - q = 3 - q := by omega
              have hst := HST.out
              rw [← hk, hY] at hst
              have HST2 := Lib.hid hst; clear hst hk hY
              have bk : ¬ ((k2 : Int) < 3) := by omega
              have bk' : (0 : Int) ≤ (k2 : Int) ∧ (k2 : Int) ≤ 3 := by omega
              (repeat' ((fail_if_success at_builtin); first | go_values | go_skip | go_guarded | go_step | go_upon))
              go_roundw
              case rel =>
                go_light
                refine ⟨⟨j + 1, by omega, by go_num, hBq.setCell (Nat.le_refl _) _, ?_, Nat.le_refl _⟩⟩
                rw [row_set HG.out, HST2.out]
              case measure => go_light; simp [intOf]; omega
        · have j32 : j = 32 := by omega
          rw [j32, outCells_all] at hg
          have hn32 : ¬ ((j : Int) < 32) := by omega
          obtain ⟨D, hD⟩ : ∃ D, wbytes s = D := ⟨_, rfl⟩
          have hDl : (bvs D).length = 32 := by rw [bvs_length, ← hD, wbytes_length]
          rw [hD] at hg
          have hfin3 := HF2.out
          rw [hD] at hfin3
          have hA := rangeAt_whole hg
          have hiD : (Tryd.prog.info? 26).map (·.size) = some (bvs D).length := by rw [hDl]; exact sizeSum
          have hfD : 0 + (bvs D).length ≤ (List.replicate 32 (Value.int .u8 0)).toArray.size := by rw [hDl]; simp
          have hres := (hBq.block w.heap.size (Array.getElem?_eq_some_iff.1 HQR.out).1).trans HQR.out
          have hbel : Below w.heap.size w wr := hB0r.trans (hBq.mono hB0r.size)
          have HA := Lib.hid hA; clear hA
          have HID := Lib.hid hiD; clear hiD
          have HFD := Lib.hid hfD; clear hfD
          have HDO := Lib.hid (bvs_oneCell D)
          have HDL := Lib.hid hDl; clear hDl
          have HF3 := Lib.hid hfin3; clear hfin3
          have HRES := Lib.hid hres; clear hres hg j32 hD
          (repeat' ((fail_if_success at_builtin); first | (first | (with_reducible refine wpList_load_mid rfl 26 _ rfl wo.heap.size 0 rfl (bvs D) _ HA.out Tryd.underlying26 rfl HID.out ?_) | ((with_reducible refine wpList_store_blk rfl 26 _ _ rfl w.heap.size 0 (bvs D) rfl rfl _ _ HRES.out HFD.out HID.out HDO.out ?_); intro wz hgz hGz; have HGZ := Lib.hid hgz; clear hgz)) | go_values | go_skip | go_guarded | go_step | go_upon))
          have hgz := HGZ.out
          rw [splice_whole _ _ (by rw [HDL.out]; simp)] at hgz
          have hRz := run_loadVar_mid (P := Tryd.prog) wz w.heap.size 0 26 (bvs D) _ (rangeAt_whole hgz) Tryd.underlying26 rfl HID.out
          have HRZ := Lib.hid hRz; clear hRz
          clear hgz
          exact bodyPost_ret (results_cell rfl _ _ _ ⟨w.heap.size, 0, none⟩ rfl _ HRZ.out) rfl ⟨by rw [HF3.out], hbel.grown hGz hbel.size (fun k e => by cases e; exact Nat.le_refl _)⟩

end Go.Proofs.YtdpfemhfmofmlaaDoor
