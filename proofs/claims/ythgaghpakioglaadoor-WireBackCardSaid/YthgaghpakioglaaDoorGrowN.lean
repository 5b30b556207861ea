/- bytes.Buffer's grow, at a reader that has a row: a new row is made. -/
import Derived.Test.YthgaghpakioglaaDoorGrowR
namespace Go.Proofs.YthgaghpakioglaaDoor
set_option linter.unusedSimpArgs false
set_option linter.unusedVariables false
open Go.RowKit
set_option maxRecDepth 10000

theorem growSliceM (b off c n m : Nat) (q : Int) (L : List UInt8) (w : World) (hr : RdB w (some ⟨b, off, none⟩) L) (hbl : b < w.heap.size) (hm : L.length = m) (hlc : m ≤ c) (hn : 1 ≤ n) (hq : q = (n : Int)) (hlim : m + n ≤ 10000000) (hc2 : c ≤ 10000000) :
    Calls Tryd.prog 38 #[.slice (some ⟨b, off, none⟩) m c, .int .i64 q] w fun e w' => ∃ cap2 cells, e = .returned (.slice (some ⟨w.heap.size, 0, none⟩) m cap2) ∧ w'.heap[w.heap.size]? = some (.cells cells 5 (0, 0)) ∧
      cells.size = cap2 ∧ cells.toList.take m = bvs L ∧ m + n ≤ cap2 ∧ cap2 ≤ maxLen ∧ Below w.heap.size w w' := by
  subst hm hq
  exact growSlice b off c n _ L w hr hbl hlc hn hlim hc2 rfl

set_option maxHeartbeats 8000000 in
/-- A new row is made; some bytes wait, or none was read. -/
theorem growNew (g k n c off p : Nat) (lr : Int) (br : Bool) (l : List UInt8) (cur : Array Value) (w : World) (h : Raw w g (some ⟨k, 0, none⟩) n c off lr br) (hkg : k ≠ g) (hk : w.heap[k]? = some (.cells cur 5 (0, 0))) (hcs : cur.size = c) (ho : off ≤ n) (hnc : n ≤ c) (hc : c ≤ 9223372036854775807)
    (hl : (cur.toList.take n).drop off = bvs l) (hll : l.length = n - off) (hm : n ≠ off ∨ off = 0) (hno : c < n + p) (hsl : c / 2 < p + l.length) (hbig : l.length + p ≤ 1000000) (hob : off ≤ 3000000) (hp : 1 ≤ p) :
    Calls Tryd.prog 36 #[.pointer (some ⟨g, 0, none⟩), .int .i64 p] w fun e w' => e = .returned (.int .i64 l.length) ∧ Grown w g (some ⟨k, 0, none⟩) l.length p l br w' := by
  have hrd : RdB w (some ⟨k, off, none⟩) l := in_rd hk hl
  have HW := Lib.hid h; clear h
  have HK := Lib.hid hk; clear hk
  have HRD := Lib.hid hrd; clear hrd
  have HL := Lib.hid hl; clear hl
  have hnil : ∀ W, (binOp .eql 22 (.slice (some ⟨k, 0, none⟩) n c) (.slice none 0 0)).run Tryd.prog W = .ok (.bool false) W := fun W => Lib.run_eql_slice_some_nil W _ _ _ Tryd.underlying22
  have hnil0 : ∀ W, (binOp .eql 22 (.slice (some ⟨k, 0, none⟩) 0 c) (.slice none 0 0)).run Tryd.prog W = .ok (.bool false) W := fun W => Lib.run_eql_slice_some_nil W _ _ _ Tryd.underlying22
  obtain ⟨hc2, hhc⟩ : ∃ h, c / 2 = h := ⟨_, rfl⟩
  have q1 : (c : Int) / 2 = (hc2 : Int) := by omega
  have q2 : (c : Int).tdiv 2 = (hc2 : Int) := by rw [Int.tdiv_eq_ediv_of_nonneg (by omega)]; omega
  have q3 : IntKind.i64.wrap (hc2 : Int) = (hc2 : Int) := by rw [IntKind.wrap_i64]; omega
  rw [hhc] at hsl
  have hcb : c ≤ 2 * hc2 + 1 := by omega
  have hhc2 : hc2 ≤ c := by omega
  have HHC := Lib.hid hhc; clear hhc
  obtain ⟨a2, ha2⟩ : ∃ a2, (if c = off then some (⟨k, 0, none⟩ : Addr) else (some (⟨k, 0, none⟩ : Addr)).map (·.add off)) = a2 := ⟨_, rfl⟩
  obtain ⟨o2, hao⟩ : ∃ o2, a2 = some ⟨k, o2, none⟩ := by
    rw [← ha2]; split
    · exact ⟨0, rfl⟩
    · exact ⟨0 + off, by rw [← Lib.addr_add]; rfl⟩
  have hsf : ∀ w, (Instr.slice 22 (.slice (some ⟨k, 0, none⟩) n c) (some (.int .i64 (off : Int))) none none).run Tryd.prog w = .ok (.slice (some ⟨k, o2, none⟩) (n - off) (c - off)) w := fun w => by
    rw [← hao, ← ha2]; exact run_slice_from _ _ Tryd.underlying22 hszB _ n c off ho w
  rw [hao] at ha2
  clear hao
  have HA2 := Lib.hid ha2; clear ha2
  rw [hll] at hsl hbig ⊢
  have HMM := Lib.hid hll; clear hll
  obtain ⟨m, hm2⟩ : ∃ m, n - off = m := ⟨_, rfl⟩
  have em : (n : Int) = (off : Int) + (m : Int) := by omega
  rw [hm2] at hsl hbig hsf HMM ⊢
  have t1 : decide ((p : Int) ≤ (hc2 : Int) - (m : Int)) = false := by simp; omega
  have t5 : decide ((9223372036854775807 : Int) - (c : Int) - (p : Int) < (c : Int)) = false := by simp; omega
  have ww1 : IntKind.i64.wrap ((off : Int) + (p : Int)) = (off : Int) + (p : Int) := by rw [IntKind.wrap_i64]; omega
  go_enter Tryd.func36, Tryd.ntmps36
  (repeat' ((fail_if_success at_builtin); first | go_values | go_skip | go_guarded | go_step | go_upon))
  refine (rawLen g _ n c off lr br w HW.out ho hnc hc).mono ?_
  rintro _ w1 ⟨rfl, rfl⟩
  dsimp only
  rw [hm2]
  have hR : Raw w.drew g (some ⟨k, 0, none⟩) n c off lr br := HW.out
  have c0 := cell_of_row w.drew g 0 _ _ _ hR
  have c1 := cell_of_row w.drew g 1 _ _ _ hR
  have f0 := frozen_of_row w.drew g 0 _ _ hR
  have f1 := frozen_of_row w.drew g 1 _ _ hR
  clear hR
  have hlt := (Array.getElem?_eq_some_iff.1 HW.out).1
  have hkl := (Array.getElem?_eq_some_iff.1 HK.out).1
  have hra : RdB w (some ⟨k, o2, none⟩) l := by
    rw [← HA2.out]
    by_cases hco : c = off
    · rw [if_pos hco]
      have hm0 : l = [] := List.eq_nil_of_length_eq_zero (by rw [HMM.out]; omega)
      rw [hm0]; exact RdC.nil _ _
    · rw [if_neg hco]
      have := HRD.out
      rw [show (⟨k, off, none⟩ : Addr) = Addr.add ⟨k, 0, none⟩ off by rw [Lib.addr_add, Nat.zero_add]] at this
      exact this
  have HA := Lib.hid hra; clear hra
  have hmo : (m = 0 ∧ off = 0) ∨ (m ≠ 0) := by omega
  rcases hmo with ⟨hm0, ho0⟩ | hm0
  · have t3 : ((m : Int) == 0) = true := by simp; omega
    have t4 : ((off : Int) == 0) = true := by simp; omega
    clear hm0 ho0
    (repeat' ((fail_if_success at_builtin); first | go_values | go_skip | go_guarded | go_step | go_upon))
    refine (tryNo g _ n c off p lr br w.drew HW.out hnc hc hno).mono ?_
    rintro _ _ ⟨rfl, rfl⟩
    dsimp only
    (repeat' ((fail_if_success at_builtin); first | go_values | go_skip | go_guarded | go_step | go_upon))
    go_region_with (
      go_at_call 38
      refine (growSliceM k o2 (c - off) (off + p) m _ l _ ?_ ?_ HMM.out (by omega) (by omega) (by omega) (by omega) (by omega)).mono ?_
      · exact RdC.congr HA.out (fun _ _ _ _ => rfl)
      · exact hkl
      rintro e w2 ⟨cap2, cells, rfl, hN, hcsz, htk, hcap2, hcm2, hbel⟩
      have hbk2 : Raw w2 g (some ⟨k, 0, none⟩) n c off lr br := (hbel.block g hlt).trans HW.out
      have d0 : w2.cell? ⟨g, 0, none⟩ = some (.slice (some ⟨k, 0, none⟩) n c) := cell_of_row w2 g 0 _ _ _ hbk2
      have d1 : w2.cell? ⟨g, 1, none⟩ = some (.int .i64 (off : Int)) := cell_of_row w2 g 1 _ _ _ hbk2
      have e0 : w2.frozen? ⟨g, 0, none⟩ = false := frozen_of_row w2 g 0 _ _ hbk2
      have e1 : w2.frozen? ⟨g, 1, none⟩ = false := frozen_of_row w2 g 1 _ _ hbk2)
    all_goals (
      have bp : (0 : Int) ≤ (m : Int) + (p : Int) ∧ (m : Int) + (p : Int) ≤ (cap2 : Int) := by omega
      have hcm3 : (cap2 : Int) ≤ 9223372036854775807 := by unfold maxLen at hcm2; omega
      (repeat' ((fail_if_success at_builtin); first | go_values | go_skip | go_guarded | go_step | go_upon))
      go_ret
      exact ⟨rfl, grown_end hlt ((Below.refl _ w).drew.drew.trans hbel) hbk2 hN hcsz (by omega) hcm2 htk (Or.inr (Nat.le_refl _)) (fun _ => rfl)⟩)
  · have t3 : ((m : Int) == 0) = false := by simp; omega
    clear hm0 em
    (repeat' ((fail_if_success at_builtin); first | go_values | go_skip | go_guarded | go_step | go_upon))
    refine (tryNo g _ n c off p lr br w.drew HW.out hnc hc hno).mono ?_
    rintro _ _ ⟨rfl, rfl⟩
    dsimp only
    (repeat' ((fail_if_success at_builtin); first | go_values | go_skip | go_guarded | go_step | go_upon))
    go_region_with (
      go_at_call 38
      refine (growSliceM k o2 (c - off) (off + p) m _ l _ ?_ ?_ HMM.out (by omega) (by omega) (by omega) (by omega) (by omega)).mono ?_
      · exact RdC.congr HA.out (fun _ _ _ _ => rfl)
      · exact hkl
      rintro e w2 ⟨cap2, cells, rfl, hN, hcsz, htk, hcap2, hcm2, hbel⟩
      have hbk2 : Raw w2 g (some ⟨k, 0, none⟩) n c off lr br := (hbel.block g hlt).trans HW.out
      have d0 : w2.cell? ⟨g, 0, none⟩ = some (.slice (some ⟨k, 0, none⟩) n c) := cell_of_row w2 g 0 _ _ _ hbk2
      have d1 : w2.cell? ⟨g, 1, none⟩ = some (.int .i64 (off : Int)) := cell_of_row w2 g 1 _ _ _ hbk2
      have e0 : w2.frozen? ⟨g, 0, none⟩ = false := frozen_of_row w2 g 0 _ _ hbk2
      have e1 : w2.frozen? ⟨g, 1, none⟩ = false := frozen_of_row w2 g 1 _ _ hbk2)
    all_goals (
      have bp : (0 : Int) ≤ (m : Int) + (p : Int) ∧ (m : Int) + (p : Int) ≤ (cap2 : Int) := by omega
      have hcm3 : (cap2 : Int) ≤ 9223372036854775807 := by unfold maxLen at hcm2; omega
      (repeat' ((fail_if_success at_builtin); first | go_values | go_skip | go_guarded | go_step | go_upon))
      go_ret
      exact ⟨rfl, grown_end hlt ((Below.refl _ w).drew.drew.trans hbel) hbk2 hN hcsz (by omega) hcm2 htk (Or.inr (Nat.le_refl _)) (fun _ => rfl)⟩)

end Go.Proofs.YthgaghpakioglaaDoor
