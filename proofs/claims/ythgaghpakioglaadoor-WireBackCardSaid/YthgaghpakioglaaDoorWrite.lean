/- bytes.Buffer's grow where all was read and the row is too small; Write, at a reader. -/
import Derived.Test.YthgaghpakioglaaDoorGrowN
namespace Go.Proofs.YthgaghpakioglaaDoor
set_option linter.unusedSimpArgs false
set_option linter.unusedVariables false
open Go.RowKit
set_option maxRecDepth 10000

set_option maxHeartbeats 8000000 in
theorem growNew0 (g k n c p : Nat) (lr : Int) (br : Bool) (cur : Array Value) (w : World) (h : Raw w g (some ⟨k, 0, none⟩) n c n lr br) (hkg : k ≠ g) (hk : w.heap[k]? = some (.cells cur 5 (0, 0))) (hcs : cur.size = c) (hnc : n ≤ c) (hn0 : n ≠ 0) (hcp : c < p) (hbig : p ≤ 1000000) :
    Calls Tryd.prog 36 #[.pointer (some ⟨g, 0, none⟩), .int .i64 p] w fun e w' => e = .returned (.int .i64 0) ∧ Grown w g (some ⟨k, 0, none⟩) 0 p [] br w' := by
  have HW := Lib.hid h; clear h
  have HK := Lib.hid hk; clear hk
  have hlt := (Array.getElem?_eq_some_iff.1 HW.out).1
  have hkl := (Array.getElem?_eq_some_iff.1 HK.out).1
  have hnil0 : ∀ W, (binOp .eql 22 (.slice (some ⟨k, 0, none⟩) 0 c) (.slice none 0 0)).run Tryd.prog W = .ok (.bool false) W := fun W => Lib.run_eql_slice_some_nil W _ _ _ Tryd.underlying22
  have hsf : ∀ w, (Instr.slice 22 (.slice (some ⟨k, 0, none⟩) 0 c) (some (.int .i64 0)) none none).run Tryd.prog w = .ok (.slice (some ⟨k, 0, none⟩) 0 c) w := fun w => by
    have h := run_slice_from (P := Tryd.prog) 22 5 Tryd.underlying22 hszB (some ⟨k, 0, none⟩) 0 c 0 (Nat.le_refl _) w
    simp only [Nat.sub_zero, Nat.sub_self] at h
    rw [show (if c = 0 then some (⟨k, 0, none⟩ : Addr) else (some (⟨k, 0, none⟩ : Addr)).map (·.add 0)) = some ⟨k, 0, none⟩ by split; rfl; show some (Addr.add ⟨k, 0, none⟩ 0) = _; rw [Lib.addr_add]] at h
    exact h
  obtain ⟨hc2, hhc⟩ : ∃ h, c / 2 = h := ⟨_, rfl⟩
  have q1 : (c : Int) / 2 = (hc2 : Int) := by omega
  have q2 : (c : Int).tdiv 2 = (hc2 : Int) := by rw [Int.tdiv_eq_ediv_of_nonneg (by omega)]; omega
  have q3 : IntKind.i64.wrap (hc2 : Int) = (hc2 : Int) := by rw [IntKind.wrap_i64]; omega
  have hhc2 : hc2 ≤ c := by omega
  clear hhc
  have e0 : n - n = 0 := by omega
  have e1 : ((n : Int) == 0) = false := by simp; omega
  have t1 : decide ((p : Int) ≤ (hc2 : Int)) = false := by simp; omega
  have t5 : decide ((9223372036854775807 : Int) - (c : Int) - (p : Int) < (c : Int)) = false := by simp; omega
  have ww1 : IntKind.i64.wrap (p : Int) = (p : Int) := by rw [IntKind.wrap_i64]; omega
  go_enter Tryd.func36, Tryd.ntmps36
  (repeat' ((fail_if_success at_builtin); first | go_values | go_skip | go_guarded | go_step | go_upon))
  refine (rawLen g _ n c n lr br w HW.out (by omega) hnc (by omega)).mono ?_
  rintro _ w1 ⟨rfl, rfl⟩
  dsimp only
  rw [e0]
  have hR : Raw w.drew g (some ⟨k, 0, none⟩) n c n lr br := HW.out
  have c1 := cell_of_row w.drew g 1 _ _ _ hR
  clear hR
  (repeat' ((fail_if_success at_builtin); first | go_values | go_skip | go_guarded | go_step | go_upon))
  refine (bufReset g _ n c n lr br w.drew HW.out).mono ?_
  rintro _ wr ⟨rfl, hg2, hr2⟩
  dsimp only
  have HG2 := Lib.hid hg2; clear hg2
  have HR2 := Lib.hid hr2; clear hr2
  clear c1
  have c0 := cell_of_row wr g 0 _ _ _ HR2.out
  have c1 := cell_of_row wr g 1 _ _ _ HR2.out
  have f0 := frozen_of_row wr g 0 _ _ HR2.out
  have f1 := frozen_of_row wr g 1 _ _ HR2.out
  have hltr : g < wr.heap.size := Nat.lt_of_lt_of_le hlt HG2.out.size
  have hklr : k < wr.heap.size := Nat.lt_of_lt_of_le hkl HG2.out.size
  (repeat' ((fail_if_success at_builtin); first | go_values | go_skip | go_guarded | go_step | go_upon))
  refine (tryNo g _ 0 c 0 p 0 br wr HR2.out (by omega) (by omega) (by omega)).mono ?_
  rintro _ _ ⟨rfl, rfl⟩
  dsimp only
  (repeat' ((fail_if_success at_builtin); first | go_values | go_skip | go_guarded | go_step | go_upon))
  go_region_with (
    go_at_call 38
    refine (growSliceM k 0 c p 0 _ [] _ ?_ ?_ rfl (by omega) (by omega) rfl (by omega) (by omega)).mono ?_
    · exact RdC.nil _ _
    · exact hklr
    rintro e w2 ⟨cap2, cells, rfl, hN, hcsz, htk, hcap2, hcm2, hbel⟩
    have hbk2 : Raw w2 g (some ⟨k, 0, none⟩) 0 c 0 0 br := (hbel.block g hltr).trans HR2.out
    have d0 : w2.cell? ⟨g, 0, none⟩ = some (.slice (some ⟨k, 0, none⟩) 0 c) := cell_of_row w2 g 0 _ _ _ hbk2
    have d1 : w2.cell? ⟨g, 1, none⟩ = some (.int .i64 0) := cell_of_row w2 g 1 _ _ _ hbk2
    have e0 : w2.frozen? ⟨g, 0, none⟩ = false := frozen_of_row w2 g 0 _ _ hbk2
    have e1 : w2.frozen? ⟨g, 1, none⟩ = false := frozen_of_row w2 g 1 _ _ hbk2)
  all_goals (
    have bp : (0 : Int) ≤ (p : Int) ∧ (p : Int) ≤ (cap2 : Int) := by omega
    have hcm3 : (cap2 : Int) ≤ 9223372036854775807 := by unfold maxLen at hcm2; omega
    (repeat' ((fail_if_success at_builtin); first | go_values | go_skip | go_guarded | go_step | go_upon))
    go_ret
    obtain ⟨k', c', lr', cur', r1, r2, r3, r4, r5, r6, r7, r8, r9⟩ := grown_end (a := some ⟨k, 0, none⟩) (m := 0) (p := p) (l := []) (v := .slice (some ⟨wr.heap.size, 0, none⟩) 0 cap2) hltr ((Below.refl _ wr).drew.trans hbel) hbk2 hN hcsz (by omega) hcm2 htk (Or.inr (Nat.le_refl _)) (q := p) (fun _ => by omega)
    exact ⟨rfl, k', c', lr', cur', r1, r2, r3, r4, r5, r6, r7, r8.imp id (fun h => Nat.le_trans HG2.out.size h), ((Frm.refl _ _ w).drew.grown HG2.out (Nat.le_refl _) (fun j e _ => by cases e; exact Or.inl rfl)).trans (r9.mono HG2.out.size (fun j _ h => h))⟩)

end Go.Proofs.YthgaghpakioglaaDoor
