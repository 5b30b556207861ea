/- What package audit answers: a chain's head, the row behind it. -/
import Derived.Test.YtdpfemhfmofmlaaDoorAudN
namespace Go.Proofs.YtdpfemhfmofmlaaDoor
set_option linter.unusedSimpArgs false
set_option linter.unusedVariables false
open Go.RowKit
set_option maxRecDepth 10000

/-- A chain's head. -/
def headOf (xs : List Ent) : List UInt8 := (xs.getLast?.map (·.sum)).getD (List.replicate 32 0)
def Ent.next (p : List UInt8) (x : Ent) : List UInt8 := wdig (x.bytes p)
/-- A row as it must be behind a chain. -/
def rowOf (xs : List Ent) (x : Ent) : Ent := { x with no := (xs.length : Int) + 1, sum := Ent.next (headOf xs) { x with no := (xs.length : Int) + 1 } }
theorem headOf_nil : headOf [] = List.replicate 32 0 := rfl
theorem headOf_snoc (xs : List Ent) (x : Ent) : headOf (xs ++ [x]) = x.sum := by simp [headOf]
theorem headOf_last (xs : List Ent) (h : 0 < xs.length) : headOf xs = (xs[xs.length - 1]).sum := by
  unfold headOf
  rw [List.getLast?_eq_getElem?, List.getElem?_eq_getElem (by omega)]
  rfl
theorem headOf_length (xs : List Ent) (h : ∀ x ∈ xs, x.Ok) : (headOf xs).length = 32 := by
  by_cases h0 : 0 < xs.length
  · rw [headOf_last xs h0]; exact (h _ (List.getElem_mem _)).sum
  · obtain rfl : xs = [] := List.eq_nil_of_length_eq_zero (by omega)
    rfl
theorem Ent.next_length (p : List UInt8) (x : Ent) : (x.next p).length = 32 := wdig_length _

theorem ent_sum {w : World} {g off : Nat} {x : Ent} (h : w.rangeAt g off x.cells) : w.rangeAt g (off + 7) (bvs x.sum) := fun j v hj => by
  rw [Nat.add_assoc]
  refine h (7 + j) v ?_
  unfold Ent.cells
  rw [List.getElem?_append_right (by simp [Ent.front])]
  rw [← hj]
  congr 1
  simp [Ent.front]

set_option maxHeartbeats 1000000 in
theorem chainHead (a : Option Addr) (n c : Nat) (xs : List Ent) (H : List UInt8) (w : World) (hH : headOf xs = H) (h : RdC w a (xs.flatMap Ent.cells)) (hok : ∀ x ∈ xs, x.Ok) (en : xs.length = n) (hn : n ≤ 1000000) :
    Calls Tryd.prog 102 #[.slice a n c] w fun e w' => e = .returned (.agg (bvs H).toArray) ∧ Below w.heap.size w w' := by
  obtain ⟨iS, zS, hiS, hzS, hcS⟩ := fresh_parts zeroSum
  have HIS := Lib.hid hiS; clear hiS
  have HZS := Lib.hid hzS; clear hzS
  have HCS := Lib.hid hcS; clear hcS
  have hHl : (bvs H).length = 32 := by rw [bvs_length, ← hH]; exact headOf_length xs hok
  have HIH := Lib.hid (show (Tryd.prog.info? 26).map (·.size) = some (bvs H).length by rw [hHl]; exact sizeSum)
  have HFH := Lib.hid (show 0 + (bvs H).length ≤ (List.replicate 32 (Value.int .u8 0)).toArray.size by rw [hHl]; simp)
  have HHO := Lib.hid (bvs_oneCell H)
  have HHL := Lib.hid hHl; clear hHl
  subst en
  by_cases h0 : 0 < xs.length
  · obtain ⟨b, off, rfl, hr⟩ := ents_at h (fun x hx => (hok x hx).sum) (xs.length - 1) (by omega)
    have hs := ent_sum hr
    have hH2 : (xs[xs.length - 1]).sum = H := by rw [← headOf_last xs h0]; exact hH
    rw [hH2] at hs
    have hb : b < w.heap.size := by obtain ⟨_, _, e, hb⟩ := h.lt (by rw [ents_length xs (fun x hx => (hok x hx).sum)]; omega); cases e; exact hb
    have HS := Lib.hid hs; clear hs
    clear hr hH hH2 h
    go_enter Tryd.func102, Tryd.ntmps102
    (repeat' ((fail_if_success at_builtin); first | (first | ((with_reducible refine wpList_alloc_fresh (w := w) rfl 26 rfl _ iS zS HIS.out HZS.out HCS.out ?_); intro w1 hg1 hB1 hs1; have HG1 := Lib.hid hg1; clear hg1; have HS1 := Lib.hid hs1; clear hs1; have HRA := Lib.hid (rangeAt_below HS.out hB1 (Nat.le_refl _))) | (with_reducible refine wpList_load_mid rfl 26 _ rfl b (off + (xs.length - 1) * 39 + 7) rfl (bvs H) _ HRA.out Tryd.underlying26 rfl HIH.out ?_) | ((with_reducible refine wpList_store_blk rfl 26 _ _ rfl w.heap.size 0 (bvs H) rfl rfl _ _ HG1.out HFH.out HIH.out HHO.out ?_); intro w2 hg2 hG2; rw [splice_whole _ _ (by rw [HHL.out];simp)] at hg2; have HG2 := Lib.hid hg2; have HRB := Lib.hid (rangeAt_whole hg2); have HFB := Lib.hid (show 0 + (bvs H).length ≤ (bvs H).toArray.size by simp); clear hg2 HG1) | (with_reducible refine wpList_load_mid rfl 26 _ rfl w.heap.size 0 rfl (bvs H) _ HRB.out Tryd.underlying26 rfl HIH.out ?_) | ((with_reducible refine wpList_store_blk rfl 26 _ _ rfl w.heap.size 0 (bvs H) rfl rfl _ _ HG2.out HFB.out HIH.out HHO.out ?_); intro w3 hg3 hG3; rw [splice_whole _ _ (by simp)] at hg3; have HG3 := Lib.hid hg3; clear hg3 HG2)) | go_values | go_skip | go_guarded | go_step | go_upon))
    have hR := run_loadVar_mid (P := Tryd.prog) w3 w.heap.size 0 26 (bvs H) _ (rangeAt_whole HG3.out) Tryd.underlying26 rfl HIH.out
    have HR2 := Lib.hid hR; clear hR
    have hB2 : Below w.heap.size w w2 := hB1.grown hG2 (by have := HS1.out; omega) (fun k e => by cases e; exact Nat.le_refl _)
    exact bodyPost_ret (results_cell rfl _ _ _ ⟨w.heap.size, 0, none⟩ rfl _ HR2.out) rfl ⟨rfl, hB2.grown hG3 hB2.size (fun k e => by cases e; exact Nat.le_refl _)⟩
  · obtain rfl : xs = [] := List.eq_nil_of_length_eq_zero (by omega)
    have hHz : bvs H = List.replicate 32 (Value.int .u8 0) := by rw [← hH, headOf_nil]; rfl
    have HHZ := Lib.hid hHz; clear hHz
    clear hH h h0
    go_enter Tryd.func102, Tryd.ntmps102
    (repeat' ((fail_if_success at_builtin); first | (first | ((with_reducible refine wpList_alloc_fresh (w := w) rfl 26 rfl _ iS zS HIS.out HZS.out HCS.out ?_); intro w2 hg2 hB1 hs1; rw [← HHZ.out] at hg2; have HG2 := Lib.hid hg2; have HS1 := Lib.hid hs1; have HRB := Lib.hid (rangeAt_whole hg2); have HFB := Lib.hid (show 0 + (bvs H).length ≤ (bvs H).toArray.size by simp); clear hg2 hs1) | (with_reducible refine wpList_load_mid rfl 26 _ rfl w.heap.size 0 rfl (bvs H) _ HRB.out Tryd.underlying26 rfl HIH.out ?_) | ((with_reducible refine wpList_store_blk rfl 26 _ _ rfl w.heap.size 0 (bvs H) rfl rfl _ _ HG2.out HFB.out HIH.out HHO.out ?_); intro w3 hg3 hG3; rw [splice_whole _ _ (by simp)] at hg3; have HG3 := Lib.hid hg3; clear hg3 HG2)) | go_values | go_skip | go_guarded | go_step | go_upon))
    have hR := run_loadVar_mid (P := Tryd.prog) w3 w.heap.size 0 26 (bvs H) _ (rangeAt_whole HG3.out) Tryd.underlying26 rfl HIH.out
    have HR2 := Lib.hid hR; clear hR
    exact bodyPost_ret (results_cell rfl _ _ _ ⟨w.heap.size, 0, none⟩ rfl _ HR2.out) rfl ⟨rfl, hB1.grown hG3 (by have := HS1.out; omega) (fun k e => by cases e; exact Nat.le_refl _)⟩

end Go.Proofs.YtdpfemhfmofmlaaDoor
