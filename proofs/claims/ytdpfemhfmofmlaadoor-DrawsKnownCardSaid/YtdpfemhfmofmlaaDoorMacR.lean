/- The published codes, and a row of bytes of one kind. -/
import Derived.Test.YtdpfemhfmofmlaaDoorMacK
namespace Go.Proofs.YtdpfemhfmofmlaaDoor
set_option linter.unusedSimpArgs false
open Go.RowKit
set_option maxRecDepth 10000

def hiT : List UInt8 := [72, 105, 32, 84, 104, 101, 114, 101]
def hiD : List UInt8 := [176, 52, 76, 97, 216, 219, 56, 83, 92, 168, 175, 206, 175, 11, 241, 43, 136, 29, 194, 0, 201, 131, 61, 167, 38, 233, 55, 108, 46, 50, 207, 247]
theorem hmac_hi : hmac (List.replicate 20 11) hiT = hiD := by kernel_rfl
def bigT : List UInt8 := [84, 101, 115, 116, 32, 85, 115, 105, 110, 103, 32, 76, 97, 114, 103, 101, 114, 32, 84, 104, 97, 110, 32, 66, 108, 111, 99, 107, 45, 83, 105, 122, 101, 32, 75, 101, 121, 32, 45, 32, 72, 97, 115, 104, 32, 75, 101, 121, 32, 70, 105, 114, 115, 116]
def bigD : List UInt8 := [96, 228, 49, 89, 30, 224, 182, 127, 13, 138, 38, 170, 203, 245, 183, 127, 142, 11, 198, 33, 55, 40, 197, 20, 5, 70, 4, 15, 14, 227, 127, 84]
theorem hmac_big : hmac (List.replicate 131 170) bigT = bigD := by kernel_rfl
theorem hmac_none : hmac (List.replicate 64 0) [] = hmac [] [] := by
  unfold hmac
  rw [show kblock (List.replicate 64 0) = kblock [] by decide]

set_option maxHeartbeats 1000000 in
theorem begins_hi (w : World) : Calls Tryd.prog 41 #[.agg (bvs hiD).toArray, .int .u32 2956217441, .int .u32 775081975] w fun e w' => e = .returned (.bool true) ∧ Below w.heap.size w w' := by
  have hc0 := cell_box w hiD 26 0 (.int .u8 176) (by kernel_rfl)
  have hc1 := cell_box w hiD 26 1 (.int .u8 52) (by kernel_rfl)
  have hc2 := cell_box w hiD 26 2 (.int .u8 76) (by kernel_rfl)
  have hc3 := cell_box w hiD 26 3 (.int .u8 97) (by kernel_rfl)
  have hc28 := cell_box w hiD 26 28 (.int .u8 46) (by kernel_rfl)
  have hc29 := cell_box w hiD 26 29 (.int .u8 50) (by kernel_rfl)
  have hc30 := cell_box w hiD 26 30 (.int .u8 207) (by kernel_rfl)
  have hc31 := cell_box w hiD 26 31 (.int .u8 247) (by kernel_rfl)
  have hB := (Below.refl w.heap.size w).alloc (Nat.le_refl _) (.cells (bvs hiD).toArray 26)
  go_enter Tryd.func41, Tryd.ntmps41
  (repeat' ((fail_if_success at_builtin); first | go_values | go_skip | go_guarded | go_step | go_upon))
  go_ret
  exact ⟨rfl, hB⟩


set_option maxHeartbeats 1000000 in
theorem begins_big (w : World) : Calls Tryd.prog 41 #[.agg (bvs bigD).toArray, .int .u32 1625567577, .int .u32 249790292] w fun e w' => e = .returned (.bool true) ∧ Below w.heap.size w w' := by
  have hc0 := cell_box w bigD 26 0 (.int .u8 96) (by kernel_rfl)
  have hc1 := cell_box w bigD 26 1 (.int .u8 228) (by kernel_rfl)
  have hc2 := cell_box w bigD 26 2 (.int .u8 49) (by kernel_rfl)
  have hc3 := cell_box w bigD 26 3 (.int .u8 89) (by kernel_rfl)
  have hc28 := cell_box w bigD 26 28 (.int .u8 14) (by kernel_rfl)
  have hc29 := cell_box w bigD 26 29 (.int .u8 227) (by kernel_rfl)
  have hc30 := cell_box w bigD 26 30 (.int .u8 127) (by kernel_rfl)
  have hc31 := cell_box w bigD 26 31 (.int .u8 84) (by kernel_rfl)
  have hB := (Below.refl w.heap.size w).alloc (Nat.le_refl _) (.cells (bvs bigD).toArray 26)
  go_enter Tryd.func41, Tryd.ntmps41
  (repeat' ((fail_if_success at_builtin); first | go_values | go_skip | go_guarded | go_step | go_upon))
  go_ret
  exact ⟨rfl, hB⟩


/-- 'make([]byte, n)', the row told. -/
theorem wpList_make0H {P : Program} {ops : Array Oper} {rest : List Oper} {o : Oper} {a : Act} {w : World} {Q : Exit → Act → World → Prop} (hg : o.guard = none) (l c : Operand) (t e : TypeId) (hop : o.op = Op.makeSlice t l c)
    (ht : P.underlying t = some (.slice e)) (hinfo : (P.info? e).map (fun i => (i.zero, i.size, i.bytes)) = some (some (.int .u8 0), 1, 1)) (n : Nat) (hl : a.eval l = .int .i64 (n : Int)) (hc : a.eval c = .int .i64 (n : Int)) (hn : n ≤ 1073741824)
    (h : ∀ w1, w1.heap[w.heap.size]? = some (.cells (bvs (List.replicate n 0)).toArray e (0, 0)) → Below w.heap.size w w1 → w1.heap.size = w.heap.size + 1 → wpList P ops Q rest (a.put o.dst (.slice (some ⟨w.heap.size, 0, none⟩) n n)) w1) :
    wpList P ops Q (o :: rest) a w := by
  obtain ⟨i, hi, hz, hs, hb⟩ := info_parts hinfo
  refine wpList_make_row w hg l c t hop e i (.int .u8 0) ht hi hz hs rfl .i64 .i64 n hl hc (by rw [hb]; omega) (by omega) (h _ ?_ ((Below.refl _ _).alloc (Nat.le_refl _) _) (by simp))
  have e : madeCells #[Value.int .u8 0] n = (bvs (List.replicate n 0)).toArray := by
    apply Array.ext_getElem?
    intro j
    by_cases hj : j < n
    · simp [madeCells, bvs, bv, hj, Nat.mod_one]
    · simp [madeCells, bvs, bv, hj]
  rw [e]
  exact heap_alloc_new w _

def filled (c : UInt8) (n k : Nat) : List UInt8 := List.replicate k c ++ List.replicate (n - k) 0
theorem filled_get (c : UInt8) (n k : Nat) (hk : k < n) : (bvs (filled c n k)).toArray[k]? = some (.int .u8 0) := by
  unfold filled
  rw [List.getElem?_toArray, bvs_append, List.getElem?_append_right (by rw [bvs_length, List.length_replicate]; exact Nat.le_refl _), bvs_length, List.length_replicate, Nat.sub_self]
  obtain ⟨m, hm⟩ : ∃ m, n - k = m + 1 := ⟨n - k - 1, by omega⟩
  rw [hm]
  rfl
theorem filled_step (c : UInt8) (n k : Nat) (hk : k < n) : (bvs (filled c n k)).toArray.setIfInBounds k (.int .u8 (c.toNat : Int)) = (bvs (filled c n (k + 1))).toArray := by
  unfold filled
  rw [List.setIfInBounds_toArray, bvs_append, List.set_append_right _ _ (by rw [bvs_length, List.length_replicate]; exact Nat.le_refl _), bvs_length, List.length_replicate, Nat.sub_self]
  obtain ⟨m, hm⟩ : ∃ m, n - k = m + 1 := ⟨n - k - 1, by omega⟩
  rw [hm, show n - (k + 1) = m by omega, List.replicate_succ, List.replicate_succ' (n := k)]
  unfold bvs
  simp only [List.map_cons, List.set_cons_zero, List.map_append, List.map_nil, List.append_assoc, List.cons_append, List.nil_append]
  rfl

structure FillRel (c : UInt8) (n : Nat) (w : World) (i : Value) (wr : World) : Prop where
  out : ∃ k : Nat, k ≤ n ∧ i = .int .i64 k ∧ Below w.heap.size w wr ∧ wr.heap[w.heap.size]? = some (.cells (bvs (filled c n k)).toArray 5 (0, 0))

set_option maxHeartbeats 1000000 in
theorem macRow (n : Nat) (c : UInt8) (N C : Int) (w : World) (hN : N = (n : Int)) (hC : C = (c.toNat : Int)) (hn : n ≤ 1073741824) :
    Calls Tryd.prog 40 #[.int .i64 N, .int .u8 C] w fun e w' => e = .returned (.slice (some ⟨w.heap.size, 0, none⟩) n n) ∧ RdB w' (some ⟨w.heap.size, 0, none⟩) (List.replicate n c) ∧ Below w.heap.size w w' := by
  subst hN hC
  go_enter Tryd.func40, Tryd.ntmps40
  (repeat' ((fail_if_success at_builtin); first | (((with_reducible refine wpList_make0H (w := w) rfl _ _ 22 5 rfl Tryd.underlying22 u8Info n rfl rfl hn ?_); intro w1 hg1 hB1 hs1; have HG1 := Lib.hid hg1; clear hg1)) | go_values | go_skip | go_guarded | go_step | go_upon))
  go_loopw [6] (fun i wr => FillRel c n w i wr) (fun i _ => n - (intOf i).toNat)
  case atStart => exact ⟨⟨0, by omega, rfl, hB1, by unfold filled; simpa using HG1.out⟩⟩
  case round =>
    obtain ⟨⟨k, hk, rfl, hB, hg⟩⟩ := hrel
    by_cases hlt : k < n
    · have bk : (0 : Int) ≤ (k : Int) ∧ (k : Int) < (n : Int) := by omega
      have hc1 : wr.cell? ⟨w.heap.size, k, none⟩ = some (.int .u8 0) := by rw [cell_of_row wr _ k _ _ _ hg, filled_get c n k hlt]
      have hf1 := frozen_of_row wr (w.heap.size) k _ _ hg
      have hst := filled_step c n k hlt
      have HG := Lib.hid hg; clear hg
      have HST := Lib.hid hst; clear hst
      (repeat' ((fail_if_success at_builtin); first | go_values | go_skip | go_guarded | go_step | go_upon))
      go_roundw
      case rel =>
        go_light
        refine ⟨⟨k + 1, by omega, by go_num, hB.setCell (by show _ ≤ w.heap.size; omega) _, ?_⟩⟩
        rw [row_set HG.out, HST.out]
      case measure => go_light; simp [intOf]; omega
    · obtain rfl : k = n := by omega
      have hr := rd_row hg
      rw [show filled c k k = List.replicate k c by unfold filled; simp] at hr
      have HR := Lib.hid hr; clear hr hg
      (repeat' ((fail_if_success at_builtin); first | go_values | go_skip | go_guarded | go_step | go_upon))
      go_ret
      exact ⟨rfl, HR.out, hB⟩

end Go.Proofs.YtdpfemhfmofmlaaDoor
