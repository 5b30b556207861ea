/- What package audit answers: a row's next digest. -/
import Derived.Test.YtdpfemhfmofmlaaDoorEnt
import Derived.Test.YtdpfemhfmofmlaaDoorHashSum
import Derived.Test.YtdpfemhfmofmlaaDoorRef07
namespace Go.Proofs.YtdpfemhfmofmlaaDoor
set_option linter.unusedSimpArgs false
set_option linter.unusedVariables false
open Go.RowKit
set_option maxRecDepth 10000

/-- While a next digest is worked out. -/
structure NxSt (w : World) (z : Nat) (x : Ent) (m : List UInt8) (wr : World) : Prop where
  below : Below w.heap.size w wr
  res : wr.heap[z]? = some (.cells (List.replicate 32 (Value.int .u8 0)).toArray 26 (0, 0))
  ent : wr.heap[w.heap.size + 1]? = some (.cells x.cells.toArray 73 (0, 0))
  hash : HashAt wr (z + 1) m m.length
  hz : z = w.heap.size + 2
theorem NxSt.size {w wr : World} {z : Nat} {x : Ent} {m : List UInt8} (h : NxSt w z x m wr) : z + 2 ≤ wr.heap.size := h.hash.lt
theorem NxSt.later {w wr w' : World} {z : Nat} {x : Ent} {m : List UInt8} (h : NxSt w z x m wr) (hb : Below wr.heap.size wr w') : NxSt w z x m w' := by
  have hs := h.size
  have hz := h.hz
  exact ⟨h.below.trans (hb.mono h.below.size), (hb.block z (by omega)).trans h.res, (hb.block _ (by omega)).trans h.ent, h.hash.below hb (by omega), hz⟩
theorem NxSt.write {w wr : World} {z : Nat} {x : Ent} {m : List UInt8} (h : NxSt w z x m wr) (hT : Tabs w) (a : Option Addr) (n c : Nat) (l : List UInt8) (hr : RdB wr a l) (en : l.length = n) (hc : n ≤ c) (hne : 0 < l.length → ∀ b off, a = some ⟨b, off, none⟩ → b ≠ z + 1) (hb : m.length + n ≤ 1000000000) :
    Calls Tryd.prog 28 #[.pointer (some ⟨z + 1, 0, none⟩), .slice a n c] wr fun e w' => e = .returned (.tuple #[]) ∧ NxSt w z x (m ++ l) w' := by
  have hz := h.hz
  have hts := hT.size
  have hs := h.size
  refine (hWrite (z + 1) a n c m l wr (hT.below h.below hts) (by omega) h.hash hr en hc hne hb).mono fun e w' ⟨h1, h2, h3⟩ => ⟨h1, ?_⟩
  refine ⟨h.below.trans (h3.belowOf h.below.size (fun k e => by omega)), (h3.block z (by omega) (by omega)).trans h.res, (h3.block _ (by omega) (by omega)).trans h.ent, ?_, hz⟩
  rw [List.length_append, en]; exact h2

theorem ent_cell {w : World} {g off : Nat} {x : Ent} (h : w.rangeAt g off x.cells) : w.cell? ⟨g, off, none⟩ = some (.int .i64 x.no) ∧ w.cell? ⟨g, off + 1, none⟩ = some (.int .i64 x.clock) ∧ w.cell? ⟨g, off + 2, none⟩ = some (.int .i64 x.kind) ∧ w.cell? ⟨g, off + 3, none⟩ = some (.int .i64 x.code) ∧ w.cell? ⟨g, off + 4, none⟩ = some (.int .i64 x.id) ∧
    w.cell? ⟨g, off + 5, none⟩ = some (.string x.stream) ∧ w.cell? ⟨g, off + 6, none⟩ = some (.string x.subject) :=
  ⟨h 0 _ rfl, h 1 _ rfl, h 2 _ rfl, h 3 _ rfl, h 4 _ rfl, h 5 _ rfl, h 6 _ rfl⟩

def Ent.ints (x : Ent) : List Int := [x.no, x.clock, x.kind, x.code, x.id]
def intsB (l : List Int) : List UInt8 := l.flatMap be8
def textsB (l : List ByteArray) : List UInt8 := l.flatMap fun s => be8 s.size ++ s.data.toList
theorem Ent.bytes_eq (p : List UInt8) (x : Ent) : x.bytes p = p ++ intsB x.ints ++ textsB [x.stream, x.subject] := by
  simp [Ent.bytes, intsB, textsB, Ent.ints]
theorem Ent.bytes_length (p : List UInt8) (x : Ent) : (x.bytes p).length = p.length + 56 + x.stream.size + x.subject.size := by
  have h1 : x.stream.data.size = x.stream.size := rfl
  have h2 : x.subject.data.size = x.subject.size := rfl
  unfold Ent.bytes
  simp only [List.length_append, be8_length, Array.length_toList, h1, h2]
  omega

set_option maxHeartbeats 400000 in
theorem auditNext (p D : List UInt8) (x : Ent) (w : World) (hD : wdig (x.bytes p) = D) (hT : Tabs w) (hp : p.length = 32) (hx : x.Ok) (h5 : x.stream.size ≤ 4096) (h6 : x.subject.size ≤ 4096) :
    Calls Tryd.prog 61 #[.agg (bvs p).toArray, .agg x.cells.toArray] w fun e w' => e = .returned (.agg (bvs D).toArray) ∧ Below w.heap.size w w' := by
  obtain ⟨iS, zS, hiS, hzS, hcS⟩ := fresh_parts zeroSum
  have HIS := Lib.hid hiS; clear hiS
  have HZS := Lib.hid hzS; clear hzS
  have HCS := Lib.hid hcS; clear hcS
  have hts := hT.size
  have HT := Lib.hid hT; clear hT
  have HP := Lib.hid hp; clear hp
  have HX := Lib.hid hx; clear hx
  obtain ⟨w0, hw0⟩ : ∃ w0, (w.alloc (.cells (bvs p).toArray 26)).alloc (.cells x.cells.toArray 73) = w0 := ⟨_, rfl⟩
  have hs0 : w0.heap.size = w.heap.size + 2 := by rw [← hw0]; simp
  have hB0 : Below w.heap.size w w0 := by rw [← hw0]; exact ((Below.refl _ _).alloc (Nat.le_refl _) _).alloc (by simp) _
  have hg0 : w0.heap[w.heap.size]? = some (.cells (bvs p).toArray 26 (0, 0)) := by
    rw [← hw0, Below.heap_alloc _ _ _ (by simp)]; exact heap_alloc_new w _
  have hg1 : w0.heap[w.heap.size + 1]? = some (.cells x.cells.toArray 73 (0, 0)) := by
    have h := heap_alloc_new (w.alloc (.cells (bvs p).toArray 26)) (.cells x.cells.toArray 73)
    rw [hw0, show (w.alloc (.cells (bvs p).toArray 26)).heap.size = w.heap.size + 1 by simp] at h
    exact h
  have HW0 := Lib.hid hw0; clear hw0
  have HS0 := Lib.hid hs0; clear hs0
  have HG0 := Lib.hid hg0; clear hg0
  have HG1 := Lib.hid hg1; clear hg1
  go_enter Tryd.func61, Tryd.ntmps61
  (repeat' ((fail_if_success at_builtin); first | go_values | go_skip | go_guarded | go_step | go_upon))
  rw [HW0.out, show w.heap.size + 1 + 1 = w0.heap.size by rw [HS0.out]]
  change Calls _ _ _ (w0.alloc (.cells (List.replicate 32 (Value.int .u8 0)).toArray 26)) _
  obtain ⟨w1, hw1⟩ : ∃ w1, w0.alloc (.cells (List.replicate 32 (Value.int .u8 0)).toArray 26) = w1 := ⟨_, rfl⟩
  have hs1 : w1.heap.size = w.heap.size + 3 := by rw [← hw1]; simp; exact HS0.out
  have hB1 : Below w0.heap.size w0 w1 := by rw [← hw1]; exact (Below.refl _ _).alloc (Nat.le_refl _) _
  have hg2 : w1.heap[w0.heap.size]? = some (.cells (List.replicate 32 (Value.int .u8 0)).toArray 26 (0, 0)) := by rw [← hw1]; exact heap_alloc_new w0 _
  rw [hw1]
  have hB01 : Below w.heap.size w w1 := hB0.trans (hB1.mono hB0.size)
  have hg0 := (hB1.block w.heap.size (by rw [HS0.out]; omega)).trans HG0.out
  have hg1 := (hB1.block (w.heap.size + 1) (by rw [HS0.out]; omega)).trans HG1.out
  refine (hNew w1 (HT.out.below hB01 hts)).mono ?_
  rintro _ w2 ⟨rfl, hh2, hB2, hs2⟩
  dsimp only
  obtain ⟨z, hz⟩ : ∃ z, w0.heap.size = z := ⟨_, rfl⟩
  have hz2 : z = w.heap.size + 2 := by rw [← hz]; exact HS0.out
  have hz1 : w1.heap.size = z + 1 := by omega
  have hN : NxSt w z x [] w2 := ⟨hB01.trans (hB2.mono hB01.size), (hB2.block z (by omega)).trans (by rw [← hz]; exact hg2), (hB2.block _ (by omega)).trans hg1, by rw [← hz1]; exact hh2, hz2⟩
  have hgp := (hB2.block w.heap.size (by omega)).trans hg0
  rw [hz1, hz]
  have hrp : RdB w2 (some ⟨w.heap.size, 0, none⟩) p := rd_row hgp
  have HN := Lib.hid hN; clear hN
  have HRP := Lib.hid hrp; clear hrp
  clear hw1 hs1 hB0 hB1 hB01 hg0 hg1 hg2 hgp HG0 HG1 HW0 HS0 hh2 hB2 hs2 hz hz1 hz2
  (repeat' ((fail_if_success at_builtin); first | go_values | go_skip | go_guarded | go_step | go_upon))
  refine (HN.out.write HT.out (some ⟨w.heap.size, 0, none⟩) 32 32 p HRP.out HP.out (Nat.le_refl _) (fun _ b off e => by have := HN.out.hz; cases e; omega) (by simp)).mono ?_
  rintro _ w3 ⟨rfl, hN3⟩
  dsimp only
  rw [List.nil_append] at hN3
  obtain ⟨c0, c1, c2, c3, c4, c5, c6⟩ := ent_cell (rangeAt_whole hN3.ent)
  have HN3 := Lib.hid hN3; clear hN3
  obtain ⟨v0, v1, v2, v3, v4, t5, t6, s7⟩ := x
  dsimp only at c0 c1 c2 c3 c4 c5 c6
  (repeat' ((fail_if_success at_builtin); first | go_values | go_skip | go_guarded | go_step | go_upon))
  obtain ⟨x, hxe⟩ : ∃ x : Ent, (⟨v0, v1, v2, v3, v4, t5, t6, s7⟩ : Ent) = x := ⟨_, rfl⟩
  rw [hxe] at HN3 hD HX
  have hL : x.ints = [v0, v1, v2, v3, v4] := by rw [← hxe]; rfl
  have hT5 : x.stream = t5 ∧ x.subject = t6 := by rw [← hxe]; exact ⟨rfl, rfl⟩
  have HXE := Lib.hid (And.intro hL hT5)
  have HD := Lib.hid hD
  have hpl := HP.out
  obtain ⟨I1, I2, I3, I4, I5⟩ : I64 v0 ∧ I64 v1 ∧ I64 v2 ∧ I64 v3 ∧ I64 v4 := by rw [← hxe] at HX; exact ⟨HX.out.no, HX.out.clock, HX.out.kind, HX.out.code, HX.out.id⟩
  have HI := Lib.hid (And.intro I1 (And.intro I2 (And.intro I3 (And.intro I4 I5))))
  clear hxe hL hT5 hD HN HRP c0 c1 c2 c3 c4 I1 I2 I3 I4 I5
  go_loopw [25] (fun i wr => ∃ k : Nat, k ≤ 5 ∧ i = .int .i64 k ∧ NxSt w z x (p ++ intsB ([v0, v1, v2, v3, v4].take k)) wr) (fun i _ => 5 - (intOf i).toNat)
  case atStart => exact ⟨0, by omega, rfl, by simpa [intsB] using HN3.out⟩
  case round =>
    obtain ⟨k, hk, rfl, hN4⟩ := hrel
    have HN4 := Lib.hid hN4; clear hN4
    by_cases hlt : k < 5
    · obtain ⟨v, hv, hiv, hidx⟩ : ∃ v, [v0, v1, v2, v3, v4][k]? = some v ∧ I64 v ∧ ∀ w, (Instr.index 130 (.agg #[.int .i64 v0, .int .i64 v1, .int .i64 v2, .int .i64 v3, .int .i64 v4]) (.int .i64 (k : Int))).run Tryd.prog w = .ok (.int .i64 v) w := by
        have : k = 0 ∨ k = 1 ∨ k = 2 ∨ k = 3 ∨ k = 4 := by omega
        rcases this with rfl | rfl | rfl | rfl | rfl
        · exact ⟨v0, rfl, HI.out.1, fun w => by kernel_rfl⟩
        · exact ⟨v1, rfl, HI.out.2.1, fun w => by kernel_rfl⟩
        · exact ⟨v2, rfl, HI.out.2.2.1, fun w => by kernel_rfl⟩
        · exact ⟨v3, rfl, HI.out.2.2.2.1, fun w => by kernel_rfl⟩
        · exact ⟨v4, rfl, HI.out.2.2.2.2, fun w => by kernel_rfl⟩
      have HSN := Lib.hid (show intsB ([v0, v1, v2, v3, v4].take (k + 1)) = intsB ([v0, v1, v2, v3, v4].take k) ++ be8 v by
        obtain ⟨hl, he⟩ := List.getElem?_eq_some_iff.1 hv
        rw [List.take_succ_eq_append_getElem hl, he]; unfold intsB; rw [List.flatMap_append]; simp)
      clear hv
      have HIV := Lib.hid hiv; clear hiv
      have HIL := Lib.hid (show (intsB ([v0, v1, v2, v3, v4].take k)).length ≤ 40 by
        have : k = 0 ∨ k = 1 ∨ k = 2 ∨ k = 3 ∨ k = 4 := by omega
        rcases this with rfl | rfl | rfl | rfl | rfl <;> simp [intsB, be8_length])
      (repeat' ((fail_if_success at_builtin); first | go_values | go_skip | go_guarded | go_step | go_upon))
      refine (packInt none 0 0 [] v wr (RdC.nil _ _) rfl (by decide) HIV.out).mono ?_
      rintro _ w5 ⟨a5, c5, rfl, hc5, hr5, hB5, hO5⟩
      dsimp only
      rw [List.nil_append] at hr5 hO5
      have HN5 := Lib.hid (HN4.out.later hB5)
      have hz4 := HN4.out.size
      have HR5 := Lib.hid hr5; clear hr5
      have HO5 := Lib.hid hO5; clear hO5
      (repeat' ((fail_if_success at_builtin); first | go_values | go_skip | go_guarded | go_step | go_upon))
      refine (HN5.out.write HT.out a5 8 c5 (be8 v) HR5.out (be8_length v) hc5 (fun h0 b off e => by subst e; have := (HO5.out.lt b rfl).1; omega) (by rw [List.length_append]; have := HIL.out; omega)).mono ?_
      rintro _ w6 ⟨rfl, hN6⟩
      dsimp only
      have HN6 := Lib.hid hN6; clear hN6
      (repeat' ((fail_if_success at_builtin); first | go_values | go_skip | go_guarded | go_step | go_upon))
      go_roundw
      case rel => exact ⟨k + 1, by omega, by go_num, by rw [HSN.out, ← List.append_assoc]; exact HN6.out⟩
      case measure => simp [intOf]; omega
    · obtain rfl : k = 5 := by omega
      have hN5 := HN4.out
      rw [show [v0, v1, v2, v3, v4].take 5 = x.ints by rw [HXE.out.1]; rfl] at hN5
      obtain ⟨_, _, _, _, _, c5, c6⟩ := ent_cell (rangeAt_whole hN5.ent)
      rw [HXE.out.2.1] at c5
      rw [HXE.out.2.2] at c6
      have HN5 := Lib.hid hN5; clear hN5
      have HIL := Lib.hid (show (intsB x.ints).length ≤ 40 by rw [HXE.out.1]; simp [intsB, be8_length])
      clear HN4
      have h5' : t5.size ≤ 4096 := h5
      have h6' : t6.size ≤ 4096 := h6
      clear h5 h6
      (repeat' ((fail_if_success at_builtin); first | go_values | go_skip | go_guarded | go_step | go_upon))
      go_loopw [38] (fun i w' => ∃ k : Nat, k ≤ 2 ∧ i = .int .i64 k ∧ NxSt w z x (p ++ intsB x.ints ++ textsB ([t5, t6].take k)) w') (fun i _ => 2 - (intOf i).toNat)
      case atStart => exact ⟨0, by omega, rfl, by simpa [textsB] using HN5.out⟩
      case round =>
        obtain ⟨k, hk, rfl, hN6⟩ := hrel
        have HN6 := Lib.hid hN6; clear hN6
        by_cases hlt : k < 2
        · obtain ⟨v, hv, hiv, hidx⟩ : ∃ v, [t5, t6][k]? = some v ∧ v.size ≤ 4096 ∧ ∀ w, (Instr.index 131 (.agg #[.string t5, .string t6]) (.int .i64 (k : Int))).run Tryd.prog w = .ok (.string v) w := by
            have : k = 0 ∨ k = 1 := by omega
            rcases this with rfl | rfl
            · exact ⟨t5, rfl, h5', fun w => by kernel_rfl⟩
            · exact ⟨t6, rfl, h6', fun w => by kernel_rfl⟩
          have HSN := Lib.hid (show textsB ([t5, t6].take (k + 1)) = textsB ([t5, t6].take k) ++ (be8 v.size ++ v.data.toList) by
            obtain ⟨hl, he⟩ := List.getElem?_eq_some_iff.1 hv
            rw [List.take_succ_eq_append_getElem hl, he]; unfold textsB; rw [List.flatMap_append]; simp)
          clear hv
          have HTL := Lib.hid (show (textsB ([t5, t6].take k)).length ≤ 10000 by
            have e5 : t5.data.size = t5.size := rfl
            have : k = 0 ∨ k = 1 := by omega
            rcases this with rfl | rfl
            · simp [textsB]
            · simp [textsB, be8_length, e5]; omega)
          have HVL := Lib.hid (show (be8 v.size ++ v.data.toList).length = 0 + 8 + v.size by rw [List.length_append, be8_length, Array.length_toList]; simp)
          (repeat' ((fail_if_success at_builtin); first | go_values | go_skip | go_guarded | go_step | go_upon))
          refine (packText none 0 0 [] v wr (RdC.nil _ _) rfl (by decide) (by omega)).mono ?_
          rintro _ w5 ⟨a5, c5, rfl, hc5, hr5, hB5, hO5⟩
          dsimp only
          rw [List.nil_append] at hr5 hO5
          have HN7 := Lib.hid (HN6.out.later hB5)
          have hz4 := HN6.out.size
          have HR5 := Lib.hid hr5; clear hr5
          have HO5 := Lib.hid hO5; clear hO5
          (repeat' ((fail_if_success at_builtin); first | go_values | go_skip | go_guarded | go_step | go_upon))
          refine (HN7.out.write HT.out a5 _ c5 _ HR5.out HVL.out hc5 (fun h0 b off e => by subst e; have := (HO5.out.lt b rfl).1; omega) (by rw [List.length_append, List.length_append]; have := HIL.out; have := HTL.out; omega)).mono ?_
          rintro _ w6 ⟨rfl, hN8⟩
          dsimp only
          have HN8 := Lib.hid hN8; clear hN8
          (repeat' ((fail_if_success at_builtin); first | go_values | go_skip | go_guarded | go_step | go_upon))
          go_roundw
          case rel => exact ⟨k + 1, by omega, by go_num, by rw [HSN.out, ← List.append_assoc]; exact HN8.out⟩
          case measure => simp [intOf]; omega
        · obtain rfl : k = 2 := by omega
          have hN7 := HN6.out
          have hbe : p ++ intsB x.ints ++ textsB ([t5, t6].take 2) = x.bytes p := by rw [Ent.bytes_eq, HXE.out.2.1, HXE.out.2.2]; rfl
          rw [hbe] at hN7
          have hbl := x.bytes_length p
          rw [HXE.out.2.1, HXE.out.2.2, HP.out] at hbl
          have HN7 := Lib.hid hN7; clear hN7 hbe
          have HBL := Lib.hid hbl; clear hbl
          have hB7 := HN7.out.below
          have hs7 := HN7.out.size
          have HZ7 := Lib.hid HN7.out.hz
          clear c5 c6 HN6
          (repeat' ((fail_if_success at_builtin); first | go_values | go_skip | go_guarded | go_step | go_upon))
          refine (hSumOf (z + 1) (x.bytes p) D wr HD.out (HT.out.below hB7 hts) HN7.out.hash (by rw [HBL.out]; omega)).mono ?_
          rintro _ w8 ⟨rfl, hB8⟩
          dsimp only
          have hq8 := (hB8.block z (by omega)).trans HN7.out.res
          have HQ8 := Lib.hid hq8; clear hq8
          have hB08 : Below w.heap.size w w8 := hB7.trans (hB8.mono hB7.size)
          have hDl : (bvs D).length = 32 := by rw [bvs_length, ← HD.out, wdig_length]
          have HID := Lib.hid (show (Tryd.prog.info? 26).map (·.size) = some (bvs D).length by rw [hDl]; exact sizeSum)
          have HFD := Lib.hid (show 0 + (bvs D).length ≤ (List.replicate 32 (Value.int .u8 0)).toArray.size by rw [hDl]; simp)
          have HDO := Lib.hid (bvs_oneCell D)
          have HDL := Lib.hid hDl; clear hDl
          (repeat' ((fail_if_success at_builtin); first | (((with_reducible refine wpList_store_blk rfl 26 _ _ rfl z 0 (bvs D) rfl rfl _ _ HQ8.out HFD.out HID.out HDO.out ?_); intro wz hgz hGz; have HGZ := Lib.hid hgz; clear hgz)) | go_values | go_skip | go_guarded | go_step | go_upon))
          have hgz := HGZ.out
          rw [splice_whole _ _ (by rw [HDL.out]; simp)] at hgz
          have hR := run_loadVar_mid (P := Tryd.prog) wz z 0 26 (bvs D) _ (rangeAt_whole hgz) Tryd.underlying26 rfl HID.out
          have HR2 := Lib.hid hR; clear hR
          clear hgz
          exact bodyPost_ret (results_cell rfl _ _ _ ⟨z, 0, none⟩ rfl _ HR2.out) rfl ⟨rfl, hB08.grown hGz hB08.size (fun k e => by cases e; have := HZ7.out; omega)⟩

end Go.Proofs.YtdpfemhfmofmlaaDoor
