/- What package sealeryref02 computes: a key's block, turned, and bytes behind it. -/
import Derived.Test.YtdpfemhfmofmlaaDoorMacR
import Derived.Test.YtdpfemhfmofmlaaDoorShaPie
namespace Go.Proofs.YtdpfemhfmofmlaaDoor
set_option linter.unusedSimpArgs false
open Go.RowKit
set_option maxRecDepth 10000

def put (l : List UInt8) (k : Nat) : List UInt8 := l.take k ++ List.replicate (64 - k) 0
theorem put_zero (l : List UInt8) : put l 0 = List.replicate 64 0 := by simp [put]
theorem put_all (l : List UInt8) : put l l.length = kpad l := by unfold put kpad; rw [List.take_length]
theorem put_get (l : List UInt8) (k : Nat) (hk : k < l.length) (h : l.length ≤ 64) : (bvs (put l k)).toArray[k]? = some (.int .u8 0) := by
  unfold put
  rw [List.getElem?_toArray, bvs_append, List.getElem?_append_right (by rw [bvs_length, List.length_take]; omega), bvs_length, List.length_take, show k - min k l.length = 0 by omega]
  obtain ⟨m, hm⟩ : ∃ m, 64 - k = m + 1 := ⟨63 - k, by omega⟩
  rw [hm]
  rfl
theorem put_step (l : List UInt8) (k : Nat) (hk : k < l.length) (h : l.length ≤ 64) : (bvs (put l k)).toArray.setIfInBounds k (.int .u8 (l[k].toNat : Int)) = (bvs (put l (k + 1))).toArray := by
  unfold put
  rw [List.setIfInBounds_toArray, bvs_append, List.set_append_right _ _ (by rw [bvs_length, List.length_take]; omega), bvs_length, List.length_take, show k - min k l.length = 0 by omega]
  obtain ⟨m, hm⟩ : ∃ m, 64 - k = m + 1 := ⟨63 - k, by omega⟩
  rw [hm, show 64 - (k + 1) = m by omega, List.replicate_succ, List.take_succ_eq_append_getElem hk]
  unfold bvs
  simp only [List.map_cons, List.set_cons_zero, List.map_append, List.map_nil, List.append_assoc, List.cons_append, List.nil_append]
  rfl

structure PutRel (l : List UInt8) (w : World) (i : Value) (wr : World) : Prop where
  out : ∃ k : Nat, k ≤ l.length ∧ i = .int .i64 k ∧ Below w.heap.size w wr ∧ wr.heap[w.heap.size]? = some (.cells (bvs (put l k)).toArray 5 (0, 0))
structure PutRel2 (l : List UInt8) (w : World) (z : Nat) (i : Value) (wr : World) : Prop where
  out : ∃ k : Nat, k ≤ l.length ∧ i = .int .i64 k ∧ Below w.heap.size w wr ∧ wr.heap[w.heap.size]? = some (.cells (bvs (put l k)).toArray 5 (0, 0)) ∧ wr.heap[z]? = some (.cells (bvs l).toArray 26 (0, 0))
structure TurnRel (y : UInt8) (K : List UInt8) (w : World) (i : Value) (wr : World) : Prop where
  out : ∃ k : Nat, k ≤ 64 ∧ i = .int .i64 k ∧ Below w.heap.size w wr ∧ wr.heap[w.heap.size]? = some (.cells (bvs (turned y K k)).toArray 5 (0, 0))
structure AddRel (X l : List UInt8) (w : World) (v i : Value) (wr : World) : Prop where
  out : ∃ k : Nat, k ≤ l.length ∧ i = .int .i64 k ∧ Below w.heap.size w wr ∧ wr.ownsRow w.heap.size 5 1 v (64 + k) (bvs (X ++ l.take k))

set_option maxHeartbeats 4000000 in
theorem refTurned (a b : Option Addr) (n1 n2 c1 c2 : Nat) (l1 l2 R : List UInt8) (y : UInt8) (Y : Int) (w : World) (hY : Y = (y.toNat : Int)) (hR : turnB y (kblock l1) ++ l2 = R) (h1 : RdB w a l1) (h2 : RdB w b l2) (e1 : l1.length = n1) (e2 : l2.length = n2) (hb1 : n1 ≤ 200000000) (hb2 : n2 ≤ 100000000) :
    Calls Tryd.prog 91 #[.slice a n1 c1, .int .u8 Y, .slice b n2 c2] w (GotB w (64 + n2) R) := by
  subst e1 e2 hY
  obtain ⟨i0, hi, hz0, hzz1, hzz2⟩ := info_parts u8Info
  obtain ⟨iS, zS, hiS, hzS, hcS⟩ := fresh_parts zeroSum
  have HIS := Lib.hid hiS; clear hiS
  have HZS := Lib.hid hzS; clear hzS
  have HCS := Lib.hid hcS; clear hcS
  have HI0 := Lib.hid hi; clear hi
  have HZ0 := Lib.hid hz0; clear hz0
  have HZ1 := Lib.hid hzz1; clear hzz1
  have HZ2 := Lib.hid hzz2; clear hzz2
  have HR1 := Lib.hid h1; clear h1
  have HR2 := Lib.hid h2; clear h2
  obtain ⟨K, hK⟩ : ∃ K, kblock l1 = K := ⟨_, rfl⟩
  have hKl : K.length = 64 := by rw [← hK]; exact kblock_length _
  obtain ⟨X, hX⟩ : ∃ X, turnB y K = X := ⟨_, rfl⟩
  have hXl : X.length = 64 := by rw [← hX, turnB_length, hKl]
  have hRX : X ++ l2 = R := by rw [← hR, ← hX, ← hK]
  have HKK := Lib.hid hKl; clear hKl
  have HXX := Lib.hid hX; clear hX
  have HXL := Lib.hid hXl; clear hXl
  have HRX := Lib.hid hRX; clear hRX
  have HK := Lib.hid hK; clear hK
  clear hR
  by_cases hb : l1.length ≤ 64
  · have hb' : (l1.length : Int) ≤ 64 := by omega
    have hKp : kpad l1 = K := by rw [← HK.out]; unfold kblock kshort; rw [if_neg (by omega)]
    have HKP := Lib.hid hKp; clear hKp
    go_enter Tryd.func91, Tryd.ntmps91
    (repeat' ((fail_if_success at_builtin); first | (((with_reducible refine wpList_make0H (w := w) rfl _ _ 22 5 rfl Tryd.underlying22 u8Info 64 rfl rfl (by decide) ?_); intro w1 hg1 hB1 hs1; have HG1 := Lib.hid hg1; clear hg1)) | go_values | go_skip | go_guarded | go_step | go_upon))
    go_loopw [8] (fun i wr => PutRel l1 w i wr) (fun i _ => l1.length - (intOf i).toNat)
    case atStart => exact ⟨⟨0, by omega, rfl, hB1, by rw [put_zero]; exact HG1.out⟩⟩
    case round =>
      obtain ⟨⟨k, hk, rfl, hB, hg⟩⟩ := hrel
      by_cases hlt : k < l1.length
      · obtain ⟨b1, off1, rfl, hcs⟩ := (HR1.out.below hB (Nat.le_refl _)).byte k hlt
        have bk : (0 : Int) ≤ (k : Int) ∧ (k : Int) < 64 := by omega
        have hc1 : wr.cell? ⟨w.heap.size, k, none⟩ = some (.int .u8 0) := by rw [cell_of_row wr _ k _ _ _ hg, put_get l1 k hlt hb]
        have hf1 := frozen_of_row wr (w.heap.size) k _ _ hg
        have hst := put_step l1 k hlt hb
        have HG := Lib.hid hg; clear hg
        generalize l1[k] = x at hcs hst
        have HST := Lib.hid hst; clear hst
        (repeat' ((fail_if_success at_builtin); first | go_values | go_skip | go_guarded | go_step | go_upon))
        go_roundw
        case rel =>
          go_light
          refine ⟨⟨k + 1, by omega, by go_num, hB.setCell (by show _ ≤ w.heap.size; omega) _, ?_⟩⟩
          rw [row_set HG.out, HST.out]
        case measure => go_light; simp [intOf]; omega
      · have hkk : k = l1.length := by omega
        have hnlt : ¬ ((k : Int) < (l1.length : Int)) := by omega
        rw [hkk, put_all, HKP.out] at hg
        have HGW := Lib.hid hg; clear hg
        have HBW := Lib.hid hB; clear hB hkk
        (repeat' ((fail_if_success at_builtin); first | go_values | go_skip | go_guarded | go_step | go_upon))
        go_loopw [11] (fun i wr => TurnRel y K w i wr) (fun i _ => 64 - (intOf i).toNat)
        case atStart => exact ⟨⟨0, by omega, rfl, HBW.out, by rw [turned_zero]; exact HGW.out⟩⟩
        case round =>
          obtain ⟨⟨k, hk, rfl, hB, hg⟩⟩ := hrel
          by_cases hlt64 : k < 64
          · have hkl : k < K.length := by rw [HKK.out]; exact hlt64
            have bk : (0 : Int) ≤ (k : Int) ∧ (k : Int) < 64 := by omega
            have hc1 : wr.cell? ⟨w.heap.size, k, none⟩ = some (.int .u8 (K[k].toNat : Int)) := by rw [cell_of_row wr _ k _ _ _ hg, turned_get _ _ _ hkl]
            have hf1 := frozen_of_row wr (w.heap.size) k _ _ hg
            have ht1 := turned_step y K k hkl
            have e1 := b_xor K[k] y
            generalize bxor K[k] y = y1 at e1 ht1
            generalize K[k] = x at hc1 e1
            have HG := Lib.hid hg; clear hg
            have HT1 := Lib.hid ht1; clear ht1
            (repeat' ((fail_if_success at_builtin); first | go_values | go_skip | go_guarded | go_step | go_upon))
            go_roundw
            case rel =>
              go_light
              refine ⟨⟨k + 1, by omega, by go_num, hB.setCell (by show _ ≤ w.heap.size; omega) _, ?_⟩⟩
              rw [row_set HG.out, HT1.out]
            case measure => go_light; simp [intOf]; omega
          · have k64 : k = 64 := by omega
            have hnk : ¬ ((k : Int) < 64) := by omega
            have hnk' : decide ((k : Int) < 64) = false := by simp; omega
            rw [k64, turned_all _ _ HKK.out, HXX.out] at hg
            have hO : wr.ownsRow w.heap.size 5 1 (.slice (some ⟨w.heap.size, 0, none⟩) 64 64) (64 + 0) (bvs (X ++ l2.take 0)) := by
              refine ⟨by rw [bvs_length, List.take_zero, List.append_nil, HXL.out], .inr ⟨w.heap.size, 64, _, rfl, Nat.le_refl _, hg, Nat.le_refl _, by decide, by simp [bvs_length, HXL.out], ?_⟩⟩
              rw [List.take_zero, List.append_nil]
              exact List.take_of_length_le (by simp [bvs_length, HXL.out])
            have HO := Lib.hid hO; clear hO hg k64
            (repeat' ((fail_if_success at_builtin); first | go_values | go_skip | go_guarded | go_step | go_upon))
            go_loopw [7, 12] (fun v i wr => AddRel X l2 w v i wr) (fun _ i _ => l2.length - (intOf i).toNat)
            case atStart => exact ⟨⟨0, by omega, rfl, hB, HO.out⟩⟩
            case round =>
              clear HO hB hnk hnk' hk hlt64
              obtain ⟨⟨j, hj, rfl, hB, hO⟩⟩ := hrel
              have HO := Lib.hid hO; clear hO
              by_cases hlt : j < l2.length
              · obtain ⟨b', off, rfl, hc⟩ := (HR2.out.below hB (Nat.le_refl _)).byte j hlt
                (repeat' ((fail_if_success at_builtin); first | go_values | go_skip | go_guarded | go_step | go_upon))
                refine wpList_app _ rfl _ _ _ _ rfl w.heap.size 5 i0 _ 1 1 Tryd.underlying22 HI0.out HZ0.out HZ1.out HZ2.out rfl _ _ _ rfl (HO.out.alloc _) _ rfl 1 [bv l2[j]] (Src.ofSlice _ Tryd.underlying22 _ 1 1 _ rfl (cell_one_new _ _ _) (by simp [bv, Value.oneCell'])) (by unfold maxLen; omega) (by omega) (by have := hB.size; simp; omega) ?_
                intro v1 w1 hO1 hg1
                have hB1 : Below w.heap.size w w1 := (hB.alloc hB.size _).grown hg1 (by have := hB.size; simp; omega) (fun g e => (HO.out.lt g e).1)
                have hO2 : w1.ownsRow w.heap.size 5 1 v1 (64 + (j + 1)) (bvs (X ++ l2.take (j + 1))) := by
                  rw [bvs_append, List.append_assoc, bvs_snoc l2 j hlt, ← bvs_append] at hO1
                  exact hO1
                have HO2 := Lib.hid hO2; clear hO2 hO1 hg1
                (repeat' ((fail_if_success at_builtin); first | go_values | go_skip | go_guarded | go_step | go_upon))
                go_roundw
                case rel => exact ⟨⟨j + 1, by omega, by go_num, hB1, HO2.out⟩⟩
                case measure => simp [intOf]; omega
              · obtain rfl : j = l2.length := by omega
                have hO := HO.out
                rw [List.take_length, HRX.out] at hO
                have HO3 := Lib.hid hO; clear hO
                (repeat' ((fail_if_success at_builtin); first | go_values | go_skip | go_guarded | go_step | go_upon))
                go_ret
                exact gotB hB HO3.out
  · have hb' : ¬ ((l1.length : Int) ≤ 64) := by omega
    obtain ⟨D, hD⟩ : ∃ D, wdig l1 = D := ⟨_, rfl⟩
    have hKp : kpad D = K := by rw [← HK.out, ← hD]; unfold kblock kshort; rw [if_pos (by omega)]
    have hDl : D.length = 32 := by rw [← hD, wdig_length]
    have hDL : (bvs D).length = 32 := by rw [bvs_length]; exact hDl
    have HKP := Lib.hid hKp; clear hKp
    have HID := Lib.hid (show (Tryd.prog.info? 26).map (·.size) = some (bvs D).length by rw [hDL]; exact sizeSum)
    have HFD := Lib.hid (show 0 + (bvs D).length ≤ (List.replicate 32 (Value.int .u8 0)).toArray.size by rw [hDL]; simp)
    have HDO := Lib.hid (bvs_oneCell D)
    have HDL := Lib.hid hDL; clear hDL
    have HDD := Lib.hid hDl; clear hDl
    have HD := Lib.hid hD; clear hD
    go_enter Tryd.func91, Tryd.ntmps91
    (repeat' ((fail_if_success at_builtin); first | (((with_reducible refine wpList_make0H (w := w) rfl _ _ 22 5 rfl Tryd.underlying22 u8Info 64 rfl rfl (by decide) ?_); intro w1 hg1 hB1 hs1; have HG1 := Lib.hid hg1; clear hg1)) | go_values | go_skip | go_guarded | go_step | go_upon))
    refine (refSumOf a _ c1 l1 D w1 HD.out (HR1.out.below hB1 (Nat.le_refl _)) rfl (by omega)).mono ?_
    rintro _ w2 ⟨rfl, hB2⟩
    dsimp only
    (repeat' ((fail_if_success at_builtin); (fail_if_success (show wpList _ _ _ ({ dst := some 32, op := _, type := _, pos := _, after := _, guard := _ } :: _) _ _)); first | (first | ((with_reducible refine wpList_alloc_fresh (w := w2) rfl 26 rfl _ iS zS HIS.out HZS.out HCS.out ?_); intro w3 hg3 hB3 hs3; have HG3 := Lib.hid hg3; clear hg3; have HS3 := Lib.hid hs3; clear hs3) | ((with_reducible refine wpList_store_blk rfl 26 _ _ rfl w2.heap.size 0 (bvs D) rfl rfl _ _ HG3.out HFD.out HID.out HDO.out ?_); intro w4 hg4 hG4; have HG4 := Lib.hid hg4; clear hg4)) | go_values | go_skip | go_guarded | go_step | go_upon))
    have hg4 := HG4.out
    rw [splice_whole _ _ (by rw [HDL.out]; simp)] at hg4
    have hB24 : Below w2.heap.size w2 w4 := hB3.grown hG4 (by have := HS3.out; omega) (fun k e => by cases e; exact Nat.le_refl _)
    have hB14 : Below w1.heap.size w1 w4 := hB2.trans (hB24.mono hB2.size)
    have hB04 : Below w.heap.size w w4 := hB1.trans (hB14.mono hB1.size)
    have hz12 : w.heap.size < w2.heap.size := by have := hB2.size; omega
    have hq4 := (hB14.block w.heap.size (by omega)).trans HG1.out
    have HG4' := Lib.hid hg4; clear hg4
    have HQ4 := Lib.hid hq4; clear hq4
    clear HG4 HG3
    go_loopw [10] (fun i wr => PutRel2 D w w2.heap.size i wr) (fun i _ => 32 - (intOf i).toNat)
    case atStart => exact ⟨⟨0, by omega, rfl, hB04, by rw [put_zero]; exact HQ4.out, HG4'.out⟩⟩
    case round =>
      obtain ⟨⟨k, hk, rfl, hB, hg, hgd⟩⟩ := hrel
      rw [HDD.out] at hk
      by_cases hlt : k < 32
      · have hkd : k < D.length := by rw [HDD.out]; exact hlt
        have bk : (0 : Int) ≤ (k : Int) ∧ (k : Int) < 32 := by omega
        have hcs := cell_bvs hgd hkd
        have hc1 : wr.cell? ⟨w.heap.size, k, none⟩ = some (.int .u8 0) := by rw [cell_of_row wr _ k _ _ _ hg, put_get D k hkd (by rw [HDD.out]; decide)]
        have hf1 := frozen_of_row wr (w.heap.size) k _ _ hg
        have hst := put_step D k hkd (by rw [HDD.out]; decide)
        have HG := Lib.hid hg; clear hg
        have HGD := Lib.hid hgd; clear hgd
        generalize D[k] = x at hcs hst
        have HST := Lib.hid hst; clear hst
        (repeat' ((fail_if_success at_builtin); first | go_values | go_skip | go_guarded | go_step | go_upon))
        go_roundw
        case rel =>
          go_light
          refine ⟨⟨k + 1, by rw [HDD.out]; omega, by go_num, hB.setCell (by show _ ≤ w.heap.size; omega) _, ?_, ?_⟩⟩
          · rw [row_set HG.out, HST.out]
          · rw [Below.heap_setCell _ _ _ _ (by show _ ≠ w.heap.size; omega)]; exact HGD.out
        case measure => go_light; simp [intOf]; omega
      · have hkk : k = D.length := by rw [HDD.out]; omega
        have hnlt : ¬ ((k : Int) < 32) := by omega
        have hnlt' : decide ((k : Int) < 32) = false := by simp; omega
        rw [hkk, put_all, HKP.out] at hg
        have HGW := Lib.hid hg; clear hg hgd
        have HBW := Lib.hid hB; clear hB hkk
        (repeat' ((fail_if_success at_builtin); first | go_values | go_skip | go_guarded | go_step | go_upon))
        go_loopw [11] (fun i wr => TurnRel y K w i wr) (fun i _ => 64 - (intOf i).toNat)
        case atStart => exact ⟨⟨0, by omega, rfl, HBW.out, by rw [turned_zero]; exact HGW.out⟩⟩
        case round =>
          obtain ⟨⟨k, hk, rfl, hB, hg⟩⟩ := hrel
          by_cases hlt64 : k < 64
          · have hkl : k < K.length := by rw [HKK.out]; exact hlt64
            have bk : (0 : Int) ≤ (k : Int) ∧ (k : Int) < 64 := by omega
            have hc1 : wr.cell? ⟨w.heap.size, k, none⟩ = some (.int .u8 (K[k].toNat : Int)) := by rw [cell_of_row wr _ k _ _ _ hg, turned_get _ _ _ hkl]
            have hf1 := frozen_of_row wr (w.heap.size) k _ _ hg
            have ht1 := turned_step y K k hkl
            have e1 := b_xor K[k] y
            generalize bxor K[k] y = y1 at e1 ht1
            generalize K[k] = x at hc1 e1
            have HG := Lib.hid hg; clear hg
            have HT1 := Lib.hid ht1; clear ht1
            (repeat' ((fail_if_success at_builtin); first | go_values | go_skip | go_guarded | go_step | go_upon))
            go_roundw
            case rel =>
              go_light
              refine ⟨⟨k + 1, by omega, by go_num, hB.setCell (by show _ ≤ w.heap.size; omega) _, ?_⟩⟩
              rw [row_set HG.out, HT1.out]
            case measure => go_light; simp [intOf]; omega
          · have k64 : k = 64 := by omega
            have hnk : ¬ ((k : Int) < 64) := by omega
            have hnk' : decide ((k : Int) < 64) = false := by simp; omega
            rw [k64, turned_all _ _ HKK.out, HXX.out] at hg
            have hO : wr.ownsRow w.heap.size 5 1 (.slice (some ⟨w.heap.size, 0, none⟩) 64 64) (64 + 0) (bvs (X ++ l2.take 0)) := by
              refine ⟨by rw [bvs_length, List.take_zero, List.append_nil, HXL.out], .inr ⟨w.heap.size, 64, _, rfl, Nat.le_refl _, hg, Nat.le_refl _, by decide, by simp [bvs_length, HXL.out], ?_⟩⟩
              rw [List.take_zero, List.append_nil]
              exact List.take_of_length_le (by simp [bvs_length, HXL.out])
            have HO := Lib.hid hO; clear hO hg k64
            (repeat' ((fail_if_success at_builtin); first | go_values | go_skip | go_guarded | go_step | go_upon))
            go_loopw [7, 12] (fun v i wr => AddRel X l2 w v i wr) (fun _ i _ => l2.length - (intOf i).toNat)
            case atStart => exact ⟨⟨0, by omega, rfl, hB, HO.out⟩⟩
            case round =>
              clear HO hB hnk hnk' hk hlt64
              obtain ⟨⟨j, hj, rfl, hB, hO⟩⟩ := hrel
              have HO := Lib.hid hO; clear hO
              by_cases hlt : j < l2.length
              · obtain ⟨b', off, rfl, hc⟩ := (HR2.out.below hB (Nat.le_refl _)).byte j hlt
                (repeat' ((fail_if_success at_builtin); first | go_values | go_skip | go_guarded | go_step | go_upon))
                refine wpList_app _ rfl _ _ _ _ rfl w.heap.size 5 i0 _ 1 1 Tryd.underlying22 HI0.out HZ0.out HZ1.out HZ2.out rfl _ _ _ rfl (HO.out.alloc _) _ rfl 1 [bv l2[j]] (Src.ofSlice _ Tryd.underlying22 _ 1 1 _ rfl (cell_one_new _ _ _) (by simp [bv, Value.oneCell'])) (by unfold maxLen; omega) (by omega) (by have := hB.size; simp; omega) ?_
                intro v1 w1 hO1 hg1
                have hB1 : Below w.heap.size w w1 := (hB.alloc hB.size _).grown hg1 (by have := hB.size; simp; omega) (fun g e => (HO.out.lt g e).1)
                have hO2 : w1.ownsRow w.heap.size 5 1 v1 (64 + (j + 1)) (bvs (X ++ l2.take (j + 1))) := by
                  rw [bvs_append, List.append_assoc, bvs_snoc l2 j hlt, ← bvs_append] at hO1
                  exact hO1
                have HO2 := Lib.hid hO2; clear hO2 hO1 hg1
                (repeat' ((fail_if_success at_builtin); first | go_values | go_skip | go_guarded | go_step | go_upon))
                go_roundw
                case rel => exact ⟨⟨j + 1, by omega, by go_num, hB1, HO2.out⟩⟩
                case measure => simp [intOf]; omega
              · obtain rfl : j = l2.length := by omega
                have hO := HO.out
                rw [List.take_length, HRX.out] at hO
                have HO3 := Lib.hid hO; clear hO
                (repeat' ((fail_if_success at_builtin); first | go_values | go_skip | go_guarded | go_step | go_upon))
                go_ret
                exact gotB hB HO3.out

end Go.Proofs.YtdpfemhfmofmlaaDoor
