/- The law MacSame, walked. -/
import Derived.Test.YtdpfemhfmofmlaaDoorMacK
namespace Go.Proofs.YtdpfemhfmofmlaaDoor
set_option linter.unusedSimpArgs false
open Go.RowKit
set_option maxRecDepth 10000

def mixed (a t : List UInt8) (k : Nat) : List UInt8 := List.zipWith bxor (a.take k) (t.take k) ++ List.replicate (32 - k) 0

theorem mixed_zero (a t : List UInt8) : (List.replicate 32 (Value.int .u8 0)).toArray = (bvs (mixed a t 0)).toArray := by simp [mixed, bvs, bv]
theorem mixed_all (a t : List UInt8) (ha : a.length = 32) (ht : t.length = 32) : mixed a t 32 = List.zipWith bxor a t := by
  unfold mixed
  rw [List.take_of_length_le (by omega), List.take_of_length_le (by omega)]
  simp
theorem mixed_len (a t : List UInt8) (k : Nat) (ha : a.length = 32) (ht : t.length = 32) (hk : k ≤ 32) : (List.zipWith bxor (a.take k) (t.take k)).length = k := by
  rw [List.length_zipWith, List.length_take, List.length_take, ha, ht]; omega
theorem mixed_get (a t : List UInt8) (k : Nat) (ha : a.length = 32) (ht : t.length = 32) (hk : k < 32) : (bvs (mixed a t k)).toArray[k]? = some (.int .u8 0) := by
  unfold mixed
  rw [List.getElem?_toArray, bvs_append, List.getElem?_append_right (by rw [bvs_length, mixed_len a t k ha ht (by omega)]; exact Nat.le_refl _), bvs_length, mixed_len a t k ha ht (by omega), Nat.sub_self]
  obtain ⟨n, hn⟩ : ∃ n, 32 - k = n + 1 := ⟨31 - k, by omega⟩
  rw [hn]
  rfl
theorem mixed_step (a t : List UInt8) (k : Nat) (ha : a.length = 32) (ht : t.length = 32) (hk : k < 32) (h1 : k < a.length) (h2 : k < t.length) :
    (bvs (mixed a t k)).toArray.setIfInBounds k (.int .u8 ((bxor a[k] t[k]).toNat : Int)) = (bvs (mixed a t (k + 1))).toArray := by
  unfold mixed
  rw [List.setIfInBounds_toArray, bvs_append, List.set_append_right _ _ (by rw [bvs_length, mixed_len a t k ha ht (by omega)]; exact Nat.le_refl _), bvs_length, mixed_len a t k ha ht (by omega), Nat.sub_self]
  obtain ⟨n, hn⟩ : ∃ n, 32 - k = n + 1 := ⟨31 - k, by omega⟩
  rw [hn, show 32 - (k + 1) = n by omega, List.replicate_succ, List.take_succ_eq_append_getElem h1, List.take_succ_eq_append_getElem h2, List.zipWith_append (by rw [List.length_take, List.length_take, ha, ht])]
  unfold bvs
  simp only [List.map_cons, List.set_cons_zero, List.zipWith_cons_cons, List.zipWith_nil_left, List.map_append, List.map_nil, List.append_assoc, List.cons_append, List.nil_append]
  rfl

theorem xor_same (x y : UInt8) : x = bxor x y ↔ y = 0 := by
  unfold bxor
  constructor
  · intro h
    have h2 : x ^^^ x = x ^^^ (x ^^^ y) := congrArg (x ^^^ ·) h
    rw [← UInt8.xor_assoc, UInt8.xor_self, UInt8.zero_xor] at h2
    exact h2.symm
  · rintro rfl
    simp
theorem xor_all : ∀ (a t : List UInt8), a.length = t.length → (a = List.zipWith bxor a t ↔ ∀ x ∈ t, x = 0)
  | [], [], _ => by simp
  | x :: a, y :: t, h => by
    have ih := xor_all a t (by simpa using h)
    rw [List.zipWith_cons_cons, List.cons.injEq, xor_same, ih]
    simp
  | [], _ :: _, h => by simp at h
  | _ :: _, [], h => by simp at h

structure MixRel (a t : List UInt8) (w : World) (sm i : Value) (wr : World) : Prop where
  out : ∃ (k : Nat) (s : Bool), k ≤ 32 ∧ i = .int .i64 k ∧ sm = .bool s ∧ (s = true ↔ ∀ x ∈ t.take k, x = 0) ∧ Below w.heap.size w wr ∧
    wr.heap[w.heap.size]? = some (.cells (bvs a).toArray 26 (0, 0)) ∧ wr.heap[w.heap.size + 1]? = some (.cells (bvs t).toArray 26 (0, 0)) ∧ wr.heap[w.heap.size + 2]? = some (.cells (bvs (mixed a t k)).toArray 26 (0, 0))

set_option maxHeartbeats 4000000 in
theorem macSame_walk (a t : List UInt8) (w : World) (hT : Tabs w) (ha : a.length = 32) (ht : t.length = 32) :
    Calls Tryd.prog 8 #[.agg (bvs a).toArray, .agg (bvs t).toArray] w fun e w' => e = .returned (.bool true) ∧ Below w.heap.size w w' := by
  obtain ⟨iS, zS, hiS, hzS, hcS⟩ := fresh_parts zeroSum
  have HIS := Lib.hid hiS; clear hiS
  have HZS := Lib.hid hzS; clear hzS
  have HCS := Lib.hid hcS; clear hcS
  have hts := hT.size
  have HT := Lib.hid hT; clear hT
  obtain ⟨wb, hwb⟩ : ∃ wb, (w.alloc (.cells (bvs a).toArray 26)).alloc (.cells (bvs t).toArray 26) = wb := ⟨_, rfl⟩
  have hga : wb.heap[w.heap.size]? = some (.cells (bvs a).toArray 26 (0, 0)) := by rw [← hwb, Go.heap_alloc_old _ _ (by simp)]; exact heap_alloc_new w _
  have hgt : wb.heap[w.heap.size + 1]? = some (.cells (bvs t).toArray 26 (0, 0)) := by
    rw [← hwb]
    have := heap_alloc_new (w.alloc (.cells (bvs a).toArray 26)) (.cells (bvs t).toArray 26)
    simpa using this
  have hsb : wb.heap.size = w.heap.size + 2 := by rw [← hwb]; simp
  have hBb : Below w.heap.size w wb := by rw [← hwb]; exact ((Below.refl _ _).alloc (Nat.le_refl _) _).alloc (by simp) _
  have HWB := Lib.hid hwb; clear hwb
  have HSB := Lib.hid hsb; clear hsb
  have HGA := Lib.hid hga; clear hga
  have HGT := Lib.hid hgt; clear hgt
  have HLA := Lib.hid ha; clear ha
  have HLT := Lib.hid ht; clear ht
  go_enter Tryd.func8, Tryd.ntmps8
  (repeat' ((fail_if_success at_builtin); first | (((with_reducible refine wpList_alloc_fresh (w := (w.alloc (.cells (bvs a).toArray 26)).alloc (.cells (bvs t).toArray 26)) rfl 26 rfl _ iS zS HIS.out HZS.out HCS.out ?_); rw [HWB.out]; intro w1 hg1 hB1 hs1; rw [HSB.out] at hg1 hs1; have HS1 := Lib.hid hs1; clear hs1; have HG1 := Lib.hid hg1; clear hg1; try rw [HSB.out])) | go_values | go_skip | go_guarded | go_step | go_upon))
  have hB01 : Below w.heap.size w w1 := hBb.trans (hB1.mono (by have := HSB.out; omega))
  have hq1 := (hB1.block w.heap.size (by have := HSB.out; omega)).trans HGA.out
  have hr1 := (hB1.block (w.heap.size + 1) (by have := HSB.out; omega)).trans HGT.out
  have HQ1 := Lib.hid hq1; clear hq1
  have HR1 := Lib.hid hr1; clear hr1
  go_loopw [6, 7] (fun sm i wr => MixRel a t w sm i wr) (fun _ i _ => 32 - (intOf i).toNat)
  case atStart => exact ⟨⟨0, true, by omega, rfl, rfl, by simp, hB01, HQ1.out, HR1.out, by rw [← mixed_zero]; exact HG1.out⟩⟩
  case round =>
    obtain ⟨⟨k, s, hk, rfl, rfl, hs, hB, hq, hr, hg⟩⟩ := hrel
    have HSS := Lib.hid hs; clear hs
    by_cases hlt32 : k < 32
    · have hka : k < a.length := by rw [HLA.out]; exact hlt32
      have hkt : k < t.length := by rw [HLT.out]; exact hlt32
      have bk : (0 : Int) ≤ (k : Int) ∧ (k : Int) < 32 := by omega
      have hc1 := cell_bvs hq hka
      have hc2 := cell_bvs hr hkt
      have hc3 : wr.cell? ⟨w.heap.size + 2, k, none⟩ = some (.int .u8 0) := by rw [cell_of_row wr _ k _ _ _ hg, mixed_get a t k HLA.out HLT.out hlt32]
      have hf3 := frozen_of_row wr (w.heap.size + 2) k _ _ hg
      have hstep := mixed_step a t k HLA.out HLT.out hlt32 hka hkt
      have hss : ∀ s', (s' = (s && t[k] == 0)) → (s' = true ↔ ∀ x ∈ t.take (k + 1), x = 0) := by
        rintro _ rfl
        rw [Bool.and_eq_true, HSS.out, List.take_succ_eq_append_getElem hkt]
        constructor
        · rintro ⟨h1, h2⟩ x hx
          rcases List.mem_append.1 hx with h | h
          · exact h1 x h
          · rw [List.mem_singleton.1 h]; exact eq_of_beq h2
        · intro h
          exact ⟨fun x hx => h x (List.mem_append_left _ hx), beq_iff_eq.2 (h _ (List.mem_append_right _ List.mem_cons_self))⟩
      have e1 := b_xor a[k] t[k]
      have hz : ((t[k].toNat : Int) == 0) = (t[k] == 0) := by
        rw [Bool.eq_iff_iff]
        simp [← UInt8.toNat_inj]
      generalize a[k] = xa at hc1 hstep e1
      generalize t[k] = xt at hc2 hstep e1 hss hz
      generalize bxor xa xt = y at e1 hstep
      have HQ := Lib.hid hq; clear hq
      have HR := Lib.hid hr; clear hr
      have HG := Lib.hid hg; clear hg
      have HST := Lib.hid hstep; clear hstep
      have HSS2 := Lib.hid hss; clear hss
      have HZ := Lib.hid hz; clear hz
      cases s with
      | true =>
        (repeat' ((fail_if_success at_builtin); first | go_values | go_skip | go_guarded | go_step | go_upon))
        go_region
        (repeat' ((fail_if_success at_builtin); first | go_values | go_skip | go_guarded | go_step | go_upon))
        go_roundw
        case rel =>
          refine ⟨⟨k + 1, _, by omega, by first | rfl | go_num, rfl, HSS2.out _ ?_, ?_, ?_, ?_, ?_⟩⟩
          · simp [HZ.out]
          · exact hB.drew.setCell (by show _ ≤ w.heap.size + 2; omega) _
          · show (wr.setCell ⟨w.heap.size + 2, k, none⟩ (.int .u8 (y.toNat : Int))).heap[_]? = _
            rw [Below.heap_setCell _ _ _ _ (by show _ ≠ w.heap.size + 2; omega)]; exact HQ.out
          · show (wr.setCell ⟨w.heap.size + 2, k, none⟩ (.int .u8 (y.toNat : Int))).heap[_]? = _
            rw [Below.heap_setCell _ _ _ _ (by show _ ≠ w.heap.size + 2; omega)]; exact HR.out
          · show (wr.setCell ⟨w.heap.size + 2, k, none⟩ (.int .u8 (y.toNat : Int))).heap[_]? = _
            rw [row_set HG.out, HST.out]
        case measure => simp [intOf]; omega
      | false =>
        (repeat' ((fail_if_success at_builtin); first | go_values | go_skip | go_guarded | go_step | go_upon))
        go_region
        (repeat' ((fail_if_success at_builtin); first | go_values | go_skip | go_guarded | go_step | go_upon))
        go_roundw
        case rel =>
          refine ⟨⟨k + 1, _, by omega, by first | rfl | go_num, rfl, HSS2.out _ ?_, ?_, ?_, ?_, ?_⟩⟩
          · simp
          · exact hB.drew.setCell (by show _ ≤ w.heap.size + 2; omega) _
          · show (wr.setCell ⟨w.heap.size + 2, k, none⟩ (.int .u8 (y.toNat : Int))).heap[_]? = _
            rw [Below.heap_setCell _ _ _ _ (by show _ ≠ w.heap.size + 2; omega)]; exact HQ.out
          · show (wr.setCell ⟨w.heap.size + 2, k, none⟩ (.int .u8 (y.toNat : Int))).heap[_]? = _
            rw [Below.heap_setCell _ _ _ _ (by show _ ≠ w.heap.size + 2; omega)]; exact HR.out
          · show (wr.setCell ⟨w.heap.size + 2, k, none⟩ (.int .u8 (y.toNat : Int))).heap[_]? = _
            rw [row_set HG.out, HST.out]
        case measure => simp [intOf]; omega
    · have k32 : k = 32 := by omega
      have hnk : ¬ ((k : Int) < 32) := by omega
      have hnk' : decide ((k : Int) < 32) = false := by simp; omega
      rw [k32, mixed_all a t HLA.out HLT.out] at hg
      obtain ⟨b, hb⟩ : ∃ b, List.zipWith bxor a t = b := ⟨_, rfl⟩
      have hbl : b.length = 32 := by rw [← hb, List.length_zipWith, HLA.out, HLT.out]; rfl
      have hab : (a == b) = s := by
        have h1 := HSS.out
        rw [k32, List.take_of_length_le (by rw [HLT.out]; exact Nat.le_refl _), ← xor_all a t (by rw [HLA.out, HLT.out]), hb] at h1
        rw [Bool.eq_iff_iff, h1]
        simp
      have hba : (b == a) = s := by
        rw [← hab, Bool.eq_iff_iff, beq_iff_eq, beq_iff_eq]
        exact ⟨fun e => e.symm, fun e => e.symm⟩
      rw [hb] at hg
      have HA := Lib.hid (rangeAt_whole hq); clear hq
      have HB := Lib.hid (rangeAt_whole hg); clear hg
      have HIA := Lib.hid (show (Tryd.prog.info? 26).map (·.size) = some (bvs a).length by rw [bvs_length, HLA.out]; exact sizeSum)
      have HIB := Lib.hid (show (Tryd.prog.info? 26).map (·.size) = some (bvs b).length by rw [bvs_length, hbl]; exact sizeSum)
      have HBL := Lib.hid hbl; clear hbl
      have HAB := Lib.hid hab; clear hab
      have HBA := Lib.hid hba; clear hba
      clear hr hb k32
      (repeat' ((fail_if_success at_builtin); first | (first | (refine wpList_load_midG (by rfl) 26 _ rfl w.heap.size 0 rfl (bvs a) _ HA.out Tryd.underlying26 rfl HIA.out ?_) | (refine wpList_load_midG (by rfl) 26 _ rfl (w.heap.size + 2) 0 rfl (bvs b) _ HB.out Tryd.underlying26 rfl HIB.out ?_)) | go_values | go_skip | go_guarded | go_step | go_upon))
      refine (macSame a b wr HLA.out HBL.out).mono ?_
      rintro _ w4 ⟨rfl, hB4⟩
      dsimp only
      rw [HAB.out]
      have HA4 := Lib.hid (rangeAt_below HA.out hB4 (Nat.le_refl _))
      have HB4 := Lib.hid (rangeAt_below HB.out hB4 (Nat.le_refl _))
      have hB04 : Below w.heap.size w w4 := hB.trans (hB4.mono hB.size)
      (repeat' ((fail_if_success at_builtin); first | (first | (refine wpList_load_midG (by rfl) 26 _ rfl w.heap.size 0 rfl (bvs a) _ HA4.out Tryd.underlying26 rfl HIA.out ?_) | (refine wpList_load_midG (by rfl) 26 _ rfl (w.heap.size + 2) 0 rfl (bvs b) _ HB4.out Tryd.underlying26 rfl HIB.out ?_)) | go_values | go_skip | go_guarded | go_step | go_upon))
      refine (macSame b a w4 HBL.out HLA.out).mono ?_
      rintro _ w5 ⟨rfl, hB5⟩
      dsimp only
      rw [HBA.out]
      have HA5 := Lib.hid (rangeAt_below HA4.out hB5 (Nat.le_refl _))
      have hB05 : Below w.heap.size w w5 := hB04.trans (hB5.mono hB04.size)
      (repeat' ((fail_if_success at_builtin); first | ((refine wpList_load_midG (by rfl) 26 _ rfl w.heap.size 0 rfl (bvs a) _ HA5.out Tryd.underlying26 rfl HIA.out ?_)) | go_values | go_skip | go_guarded | go_step | go_upon))
      refine (macSame a a w5 HLA.out HLA.out).mono ?_
      rintro _ w6 ⟨rfl, hB6⟩
      dsimp only
      rw [show (a == a) = true by simp]
      have hB06 : Below w.heap.size w w6 := hB05.trans (hB6.mono hB05.size)
      (repeat' ((fail_if_success at_builtin); first | go_values | go_skip | go_guarded | go_step | go_upon))
      refine (macKnown w6 (HT.out.below hB06 hts)).mono ?_
      rintro _ w7 ⟨rfl, hB7⟩
      dsimp only
      (repeat' ((fail_if_success at_builtin); first | go_values | go_skip | go_guarded | go_step | go_upon))
      go_ret
      exact ⟨rfl, hB06.trans (hB7.mono hB06.size)⟩

end Go.Proofs.YtdpfemhfmofmlaaDoor
