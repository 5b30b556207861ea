/- What package mac computes: two codes are compared. -/
import Derived.Test.YtdpfemhfmofmlaaDoorShaTwo
namespace Go.Proofs.YtdpfemhfmofmlaaDoor
set_option linter.unusedSimpArgs false
open Go.RowKit
set_option maxRecDepth 10000

def bxor (x y : UInt8) : UInt8 := x ^^^ y
def bor (x y : UInt8) : UInt8 := x ||| y

theorem b_xor (x y : UInt8) : bits .xor .u8 (x.toNat : Int) (y.toNat : Int) = ((bxor x y).toNat : Int) := by
  unfold bxor
  have h1 : (BitVec.ofInt 8 (x.toNat : Int)) = x.toBitVec := by rw [BitVec.ofInt_natCast]; apply BitVec.eq_of_toNat_eq; rw [BitVec.toNat_ofNat]; exact Nat.mod_eq_of_lt x.toNat_lt
  have h2 : (BitVec.ofInt 8 (y.toNat : Int)) = y.toBitVec := by rw [BitVec.ofInt_natCast]; apply BitVec.eq_of_toNat_eq; rw [BitVec.toNat_ofNat]; exact Nat.mod_eq_of_lt y.toNat_lt
  show IntKind.u8.wrap ((BitVec.ofInt 8 (x.toNat : Int) ^^^ BitVec.ofInt 8 (y.toNat : Int)).toNat : Int) = _
  rw [h1, h2, IntKind.wrap_u8]
  have := (x ^^^ y).toNat_lt
  have e : (x.toBitVec ^^^ y.toBitVec).toNat = (x ^^^ y).toNat := rfl
  rw [e]
  omega
theorem b_or (x y : UInt8) : bits .or .u8 (x.toNat : Int) (y.toNat : Int) = ((bor x y).toNat : Int) := by
  unfold bor
  have h1 : (BitVec.ofInt 8 (x.toNat : Int)) = x.toBitVec := by rw [BitVec.ofInt_natCast]; apply BitVec.eq_of_toNat_eq; rw [BitVec.toNat_ofNat]; exact Nat.mod_eq_of_lt x.toNat_lt
  have h2 : (BitVec.ofInt 8 (y.toNat : Int)) = y.toBitVec := by rw [BitVec.ofInt_natCast]; apply BitVec.eq_of_toNat_eq; rw [BitVec.toNat_ofNat]; exact Nat.mod_eq_of_lt y.toNat_lt
  show IntKind.u8.wrap ((BitVec.ofInt 8 (x.toNat : Int) ||| BitVec.ofInt 8 (y.toNat : Int)).toNat : Int) = _
  rw [h1, h2, IntKind.wrap_u8]
  have := (x ||| y).toNat_lt
  have e : (x.toBitVec ||| y.toBitVec).toNat = (x ||| y).toNat := rfl
  rw [e]
  omega

theorem or_zero (x y z : UInt8) : bor x (bxor y z) = 0 ↔ x = 0 ∧ y = z := by
  unfold bor bxor
  rw [UInt8.or_eq_zero_iff, UInt8.xor_eq_zero_iff]

structure SameRel (a b : List UInt8) (w : World) (acc i : Value) (wr : World) : Prop where
  out : ∃ (k : Nat) (x : UInt8), k ≤ 32 ∧ i = .int .i64 k ∧ acc = .int .u8 (x.toNat : Int) ∧ (x = 0 ↔ a.take k = b.take k) ∧ Below w.heap.size w wr ∧
    wr.heap[w.heap.size]? = some (.cells (bvs a).toArray 26 (0, 0)) ∧ wr.heap[w.heap.size + 1]? = some (.cells (bvs b).toArray 26 (0, 0))

theorem cell_bvs {w : World} {g k : Nat} {l : List UInt8} {t : TypeId} {fr : Nat × Nat} (h : w.heap[g]? = some (.cells (bvs l).toArray t fr)) (hk : k < l.length) : w.cell? ⟨g, k, none⟩ = some (.int .u8 (l[k].toNat : Int)) := by
  rw [cell_of_row w g k _ _ _ h]
  simp [bvs, bv, hk]

set_option maxHeartbeats 1000000 in
theorem macSame (a b : List UInt8) (w : World) (ha : a.length = 32) (hb : b.length = 32) :
    Calls Tryd.prog 37 #[.agg (bvs a).toArray, .agg (bvs b).toArray] w fun e w' => e = .returned (.bool (a == b)) ∧ Below w.heap.size w w' := by
  obtain ⟨wb, hwb⟩ : ∃ wb, (w.alloc (.cells (bvs a).toArray 26)).alloc (.cells (bvs b).toArray 26) = wb := ⟨_, rfl⟩
  have hga : wb.heap[w.heap.size]? = some (.cells (bvs a).toArray 26 (0, 0)) := by rw [← hwb, Go.heap_alloc_old _ _ (by simp)]; exact heap_alloc_new w _
  have hgb : wb.heap[w.heap.size + 1]? = some (.cells (bvs b).toArray 26 (0, 0)) := by
    rw [← hwb]
    have := heap_alloc_new (w.alloc (.cells (bvs a).toArray 26)) (.cells (bvs b).toArray 26)
    simpa using this
  have hBb : Below w.heap.size w wb := by rw [← hwb]; exact ((Below.refl _ _).alloc (Nat.le_refl _) _).alloc (by simp) _
  have HWB := Lib.hid hwb; clear hwb
  have HGA := Lib.hid hga; clear hga
  have HGB := Lib.hid hgb; clear hgb
  have HLA := Lib.hid ha; clear ha
  have HLB := Lib.hid hb; clear hb
  go_enter Tryd.func37, Tryd.ntmps37
  (repeat' ((fail_if_success at_builtin); first | go_values | go_skip | go_guarded | go_step | go_upon))
  rw [HWB.out]
  (repeat' ((fail_if_success at_builtin); first | go_values | go_skip | go_guarded | go_step | go_upon))
  go_loopw [5, 6, 7] (fun acc _ i wr => SameRel a b w acc i wr) (fun _ _ i _ => 32 - (intOf i).toNat)
  case atStart => exact ⟨⟨0, 0, by omega, rfl, rfl, by simp, hBb, HGA.out, HGB.out⟩⟩
  case round =>
    obtain ⟨⟨k, x, hk, rfl, rfl, hx, hB, hg1, hg2⟩⟩ := hrel
    have HX := Lib.hid hx; clear hx
    by_cases hlt32 : k < 32
    · have hka : k < a.length := by rw [HLA.out]; exact hlt32
      have hkb : k < b.length := by rw [HLB.out]; exact hlt32
      have bk : (0 : Int) ≤ (k : Int) ∧ (k : Int) < 32 := by omega
      have hc1 := cell_bvs hg1 hka
      have hc2 := cell_bvs hg2 hkb
      have hd1 : wr.drew.cell? ⟨w.heap.size, k, none⟩ = some (.int .u8 (a[k].toNat : Int)) := cell_bvs (w := wr.drew) hg1 hka
      have hd2 : wr.drew.cell? ⟨w.heap.size + 1, k, none⟩ = some (.int .u8 (b[k].toNat : Int)) := cell_bvs (w := wr.drew) hg2 hkb
      have htk : (bor x (bxor a[k] b[k]) = 0 ↔ a.take (k + 1) = b.take (k + 1)) := by
        rw [or_zero, HX.out, List.take_succ_eq_append_getElem hka, List.take_succ_eq_append_getElem hkb]
        constructor
        · rintro ⟨h1, h2⟩; rw [h1, h2]
        · intro h
          have := List.append_inj h (by rw [List.length_take, List.length_take, HLA.out, HLB.out])
          exact ⟨this.1, by simpa using this.2⟩
      generalize a[k] = xa at hc1 hd1 htk
      generalize b[k] = xb at hc2 hd2 htk
      have e1 := b_xor xa xb
      generalize bxor xa xb = y at e1 htk
      have e2 := b_or x y
      generalize bor x y = z at e2 htk
      have HG1 := Lib.hid hg1; clear hg1
      have HG2 := Lib.hid hg2; clear hg2
      have HTK := Lib.hid htk; clear htk
      (repeat' ((fail_if_success at_builtin); first | go_values | go_skip | go_guarded | go_step | go_upon))
      go_region
      (repeat' ((fail_if_success at_builtin); first | go_values | go_skip | go_guarded | go_step | go_upon))
      go_roundw
      case rel => exact ⟨⟨k + 1, z, by omega, by first | rfl | go_num, rfl, HTK.out, hB.drew, HG1.out, HG2.out⟩⟩
      case measure => simp [intOf]; omega
    · obtain rfl : k = 32 := by omega
      by_cases h0 : x = 0
      · have hab : a = b := by
          have := HX.out.1 h0
          rwa [List.take_of_length_le (by rw [HLA.out]; exact Nat.le_refl _), List.take_of_length_le (by rw [HLB.out]; exact Nat.le_refl _)] at this
        subst h0
        (repeat' ((fail_if_success at_builtin); first | go_values | go_skip | go_guarded | go_step | go_upon))
        go_ret
        exact ⟨by rw [hab]; simp, hB⟩
      · have hab : ¬ a = b := fun e => h0 (HX.out.2 (by rw [e]))
        have hne : ¬ ((x.toNat : Int) = 0) := fun e => h0 (by apply UInt8.toNat_inj.1; simp; omega)
        have HAB := Lib.hid hab; clear hab
        (repeat' ((fail_if_success at_builtin); first | go_values | go_skip | go_guarded | go_step | go_upon))
        go_ret
        exact ⟨by rw [show (a == b) = false from by simpa using HAB.out]; simp; omega, hB⟩

end Go.Proofs.YtdpfemhfmofmlaaDoor
