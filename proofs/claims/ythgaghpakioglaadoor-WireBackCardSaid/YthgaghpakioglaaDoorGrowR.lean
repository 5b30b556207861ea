/- bytes.Buffer's grow, at a reader that has a row. -/
import Derived.Test.YthgaghpakioglaaDoorGrow
import Derived.Deep.RegionHeld3
namespace Go.Proofs.YthgaghpakioglaaDoor
set_option linter.unusedSimpArgs false
set_option linter.unusedVariables false
open Go.RowKit
set_option maxRecDepth 10000

theorem splice_take (cur : Array Value) (cs : List Value) (h : cs.length ≤ cur.size) : (splice cur.toList 0 cs).toArray.size = cur.size ∧ (splice cur.toList 0 cs).toArray.toList.take cs.length = cs := by
  unfold splice
  rw [List.take_zero, List.nil_append]
  constructor
  · have hz : cur.toList.length = cur.size := Array.length_toList
    rw [List.size_toArray, List.length_append, List.length_drop]; omega
  · show (cs ++ cur.toList.drop (0 + cs.length)).take cs.length = cs
    rw [List.take_append_of_le_length (Nat.le_refl _), List.take_of_length_le (Nat.le_refl _)]

set_option maxHeartbeats 2000000 in
/-- All was read, and the row has room. -/
theorem growBack (g k n c p : Nat) (lr : Int) (br : Bool) (cur : Array Value) (w : World) (h : Raw w g (some ⟨k, 0, none⟩) n c n lr br) (hkg : k ≠ g) (hk : w.heap[k]? = some (.cells cur 5 (0, 0))) (hcs : cur.size = c) (hnc : n ≤ c) (hc : c ≤ 9223372036854775807) (hn0 : n ≠ 0) (hpc : p ≤ c) (hno : c < n + p) :
    Calls Tryd.prog 36 #[.pointer (some ⟨g, 0, none⟩), .int .i64 p] w fun e w' => e = .returned (.int .i64 0) ∧ Grown w g (some ⟨k, 0, none⟩) 0 p [] br w' := by
  have HW := Lib.hid h; clear h
  have HK := Lib.hid hk; clear hk
  have e0 : n - n = 0 := by omega
  have e1 : ((n : Int) == 0) = false := by simp; omega
  go_enter Tryd.func36, Tryd.ntmps36
  (repeat' ((fail_if_success at_builtin); first | go_values | go_skip | go_guarded | go_step | go_upon))
  refine (rawLen g _ n c n lr br w HW.out (by omega) hnc hc).mono ?_
  rintro _ w1 ⟨rfl, rfl⟩
  dsimp only
  rw [e0]
  have hR : Raw w.drew g (some ⟨k, 0, none⟩) n c n lr br := HW.out
  have c1 := cell_of_row w.drew g 1 _ _ _ hR
  clear hR
  (repeat' ((fail_if_success at_builtin); first | go_values | go_skip | go_guarded | go_step | go_upon))
  refine (bufReset g _ n c n lr br w.drew HW.out).mono ?_
  rintro _ w2 ⟨rfl, hg2, hr2⟩
  dsimp only
  have HG2 := Lib.hid hg2; clear hg2
  have HR2 := Lib.hid hr2; clear hr2
  clear c1
  (repeat' ((fail_if_success at_builtin); first | go_values | go_skip | go_guarded | go_step | go_upon))
  refine (tryYes g _ 0 c 0 p 0 br w2 HR2.out hc (by omega)).mono ?_
  rintro _ w3 ⟨rfl, hg3, hr3⟩
  dsimp only
  have HG3 := Lib.hid hg3; clear hg3
  have HR3 := Lib.hid hr3; clear hr3
  (repeat' ((fail_if_success at_builtin); first | go_values | go_skip | go_guarded | go_step | go_upon))
  go_ret
  have hF : Frm w.heap.size (fun j => j = g ∨ some (⟨k, 0, none⟩ : Addr) = some ⟨j, 0, none⟩) w w3 := ((Frm.refl _ _ w).drew.grown HG2.out (Nat.le_refl _) (fun j e _ => by cases e; exact Or.inl rfl)).grown HG3.out HG2.out.size (fun j e _ => by cases e; exact Or.inl rfl)
  refine ⟨rfl, k, c, 0, cur, HR3.out, hkg, ?_, hcs, by omega, by unfold maxLen; omega, rfl, Or.inl rfl, hF⟩
  have hk2 : k < w.heap.size := (Array.getElem?_eq_some_iff.1 HK.out).1
  rw [HG3.out.block k (Nat.lt_of_lt_of_le hk2 HG2.out.size) (by intro e; cases e; exact hkg rfl), HG2.out.block k hk2 (by intro e; cases e; exact hkg rfl)]
  exact HK.out

abbrev SlS (g k n c off : Nat) (w' : World) : Prop := w'.cell? ⟨g, 0, none⟩ = some (.slice (some ⟨k, 0, none⟩) n c) ∧ w'.cell? ⟨g, 1, none⟩ = some (.int .i64 (off : Int))

set_option maxHeartbeats 4000000 in
/-- The bytes are slid down. -/
theorem growSlide (g k n c off p : Nat) (lr : Int) (br : Bool) (l : List UInt8) (cur : Array Value) (w : World) (h : Raw w g (some ⟨k, 0, none⟩) n c off lr br) (hkg : k ≠ g) (hk : w.heap[k]? = some (.cells cur 5 (0, 0))) (hcs : cur.size = c) (ho : off ≤ n) (hnc : n ≤ c) (hc : c ≤ 9223372036854775807)
    (hl : (cur.toList.take n).drop off = bvs l) (hll : l.length = n - off) (hm : n ≠ off ∨ off = 0) (hno : c < n + p) (hsl : p + l.length ≤ c / 2) :
    Calls Tryd.prog 36 #[.pointer (some ⟨g, 0, none⟩), .int .i64 p] w fun e w' => e = .returned (.int .i64 l.length) ∧ Grown w g (some ⟨k, 0, none⟩) l.length p l br w' := by
  have hrd : RdB w (some ⟨k, off, none⟩) l := in_rd hk hl
  have HW := Lib.hid h; clear h
  have HK := Lib.hid hk; clear hk
  have HRD := Lib.hid hrd; clear hrd
  have HL := Lib.hid hl; clear hl
  have hnil : ∀ W, (binOp .eql 22 (.slice (some ⟨k, 0, none⟩) n c) (.slice none 0 0)).run Tryd.prog W = .ok (.bool false) W := fun W => Lib.run_eql_slice_some_nil W _ _ _ Tryd.underlying22
  obtain ⟨a2, ha2⟩ : ∃ a2, (if c = off then some (⟨k, 0, none⟩ : Addr) else (some (⟨k, 0, none⟩ : Addr)).map (·.add off)) = a2 := ⟨_, rfl⟩
  have hsf : ∀ w, (Instr.slice 22 (.slice (some ⟨k, 0, none⟩) n c) (some (.int .i64 (off : Int))) none none).run Tryd.prog w = .ok (.slice a2 (n - off) (c - off)) w := fun w => by
    rw [← ha2]; exact run_slice_from _ _ Tryd.underlying22 hszB _ n c off ho w
  have HA2 := Lib.hid ha2; clear ha2
  obtain ⟨hc2, hhc⟩ : ∃ h, c / 2 = h := ⟨_, rfl⟩
  have q1 : (c : Int) / 2 = (hc2 : Int) := by omega
  have q2 : (c : Int).tdiv 2 = (hc2 : Int) := by rw [Int.tdiv_eq_ediv_of_nonneg (by omega)]; omega
  have q3 : IntKind.i64.wrap (hc2 : Int) = (hc2 : Int) := by rw [IntKind.wrap_i64]; omega
  rw [hhc] at hsl
  have hhc2 : hc2 ≤ c := by omega
  have HHC := Lib.hid hhc; clear hhc
  rw [hll] at hsl ⊢
  have HMM := Lib.hid hll; clear hll
  obtain ⟨m, hm2⟩ : ∃ m, n - off = m := ⟨_, rfl⟩
  have em : (n : Int) = (off : Int) + (m : Int) := by omega
  rw [hm2] at hsl hsf HMM ⊢
  have t1 : decide ((p : Int) ≤ (hc2 : Int) - (m : Int)) = true := by simp; omega
  have t2 : ((m : Int) == 0 && !((off : Int) == 0)) = false := by
    rcases hm with h | h
    · have : ((m : Int) == 0) = false := by simp; omega
      simp [this]
    · simp [h]
  go_enter Tryd.func36, Tryd.ntmps36
  (repeat' ((fail_if_success at_builtin); first | go_values | go_skip | go_guarded | go_step | go_upon))
  refine (rawLen g _ n c off lr br w HW.out ho hnc hc).mono ?_
  rintro _ w1 ⟨rfl, rfl⟩
  dsimp only
  rw [hm2]
  have hR : Raw w.drew g (some ⟨k, 0, none⟩) n c off lr br := HW.out
  have c0 := cell_of_row w.drew g 0 _ _ _ hR
  have c1 := cell_of_row w.drew g 1 _ _ _ hR
  have f0 := frozen_of_row w.drew g 0 _ _ hR
  have f1 := frozen_of_row w.drew g 1 _ _ hR
  clear hR
  have hlt := (Array.getElem?_eq_some_iff.1 HW.out).1
  have HLT := Lib.hid hlt; clear hlt
  have hra : RdB w a2 l := by
    rw [← HA2.out]
    by_cases hco : c = off
    · rw [if_pos hco]
      have hm0 : l = [] := List.eq_nil_of_length_eq_zero (by rw [HMM.out]; omega)
      rw [hm0]; exact RdC.nil _ _
    · rw [if_neg hco]
      have := HRD.out
      rw [show (⟨k, off, none⟩ : Addr) = Addr.add ⟨k, 0, none⟩ off by rw [Lib.addr_add, Nat.zero_add]] at this
      exact this
  have HA := Lib.hid hra; clear hra
  have hmo : (m = 0 ∧ off = 0) ∨ (m ≠ 0) := by omega
  clear t2
  rcases hmo with ⟨hm0, ho0⟩ | hm0
  · exfalso; omega
  · have t3 : ((m : Int) == 0) = false := by simp; omega
    clear hm0 em
    (repeat' ((fail_if_success at_builtin); first | go_values | go_skip | go_guarded | go_step | go_upon))
    refine (tryNo g _ n c off p lr br w.drew HW.out hnc hc hno).mono ?_
    rintro _ _ ⟨rfl, rfl⟩
    dsimp only
    (repeat' ((fail_if_success at_builtin); first | go_values | go_skip | go_guarded | go_step | go_upon))
    have hk3 : w.drew.drew.heap[k]? = some (.cells cur 5 (0, 0)) := HK.out
    have hr3 : RdB w.drew.drew a2 l := RdC.congr HA.out (fun _ _ _ _ => rfl)
    refine wp_region_noPanic ?_
    refine wp_region_held_drew (S := SlS g k n c off) (by kernel_rfl) ?_ (fun hHeld => ?_)
    · (exact ⟨c0, c1⟩)
    refine wpAnyH_take (i := 0) (oi := _) (v := ?_) rfl (by kernel_rfl) (by kernel_rfl) (by kernel_rfl) (fun _ _ _ h => h) (Or.inl ⟨by kernel_rfl, ?_⟩) (by assumption) ?_
    rotate_left 1
    · (intro w hSw; (try dsimp only at hSw); go_simp; all_goals (with_reducible rfl))
    try simp only [Act.put, List.setIfInBounds_toArray, List.set_cons_zero, List.set_cons_succ]
    refine wpAnyH_take (i := 1) (oi := _) (v := ?_) rfl (by kernel_rfl) (by kernel_rfl) (by kernel_rfl) (fun _ _ _ h => h) (Or.inl ⟨by kernel_rfl, ?_⟩) (by assumption) ?_
    rotate_left 1
    · (intro w hSw; (try dsimp only at hSw); go_simp; all_goals (with_reducible rfl))
    try simp only [Act.put, List.setIfInBounds_toArray, List.set_cons_zero, List.set_cons_succ]
    refine wpAnyH_take (i := 2) (oi := _) (v := ?_) rfl (by kernel_rfl) (by kernel_rfl) (by kernel_rfl) (fun _ _ _ h => h) (Or.inl ⟨by kernel_rfl, ?_⟩) (by assumption) ?_
    rotate_left 1
    · (intro w hSw; (try dsimp only at hSw); go_simp; all_goals (with_reducible rfl))
    try simp only [Act.put, List.setIfInBounds_toArray, List.set_cons_zero, List.set_cons_succ]
    refine wpAnyH_take (i := 3) (oi := _) (v := ?_) rfl (by kernel_rfl) (by kernel_rfl) (by kernel_rfl) (fun _ _ _ h => h) (Or.inl ⟨by kernel_rfl, ?_⟩) (by assumption) ?_
    rotate_left 1
    · (intro w hSw; (try dsimp only at hSw); go_simp; all_goals (with_reducible rfl))
    try simp only [Act.put, List.setIfInBounds_toArray, List.set_cons_zero, List.set_cons_succ]
    refine wpAnyH_take (i := 4) (oi := _) (v := ?_) rfl (by kernel_rfl) (by kernel_rfl) (by kernel_rfl) (fun _ _ _ h => h) (Or.inl ⟨by kernel_rfl, ?_⟩) (by assumption) ?_
    rotate_left 1
    · (intro w hSw; (try dsimp only at hSw); go_simp; all_goals (with_reducible rfl))
    try simp only [Act.put, List.setIfInBounds_toArray, List.set_cons_zero, List.set_cons_succ]
    refine wpAnyH_take (i := 5) (oi := _) (v := ?_) rfl (by kernel_rfl) (by kernel_rfl) (by kernel_rfl) (fun _ _ _ h => h) (Or.inl ⟨by kernel_rfl, ?_⟩) (by assumption) ?_
    rotate_left 1
    · (intro w hSw; (try dsimp only at hSw); go_simp; all_goals (with_reducible rfl))
    try simp only [Act.put, List.setIfInBounds_toArray, List.set_cons_zero, List.set_cons_succ]
    refine wpAnyH_take (i := 6) (oi := _) (v := ?_) rfl (by kernel_rfl) (by kernel_rfl) (by kernel_rfl) (fun _ _ _ h => h) (Or.inl ⟨by kernel_rfl, ?_⟩) (by assumption) ?_
    rotate_left 1
    · (intro w hSw; (try dsimp only at hSw); go_simp; all_goals (with_reducible rfl))
    try simp only [Act.put, List.setIfInBounds_toArray, List.set_cons_zero, List.set_cons_succ]
    refine wpAnyH_take (i := 7) (oi := _) (v := ?_) rfl (by kernel_rfl) (by kernel_rfl) (by kernel_rfl) (fun _ _ _ h => h) (Or.inl ⟨by kernel_rfl, ?_⟩) (by assumption) ?_
    rotate_left 1
    · (intro w hSw; (try dsimp only at hSw); go_simp; all_goals (with_reducible rfl))
    try simp only [Act.put, List.setIfInBounds_toArray, List.set_cons_zero, List.set_cons_succ]
    refine wpAnyH_take (i := 8) (oi := _) (v := ?_) rfl (by kernel_rfl) (by kernel_rfl) (by kernel_rfl) (fun _ _ _ h => h) (Or.inl ⟨by kernel_rfl, ?_⟩) (by assumption) ?_
    rotate_left 1
    · (intro w hSw; (try dsimp only at hSw); go_simp; all_goals (with_reducible rfl))
    try simp only [Act.put, List.setIfInBounds_toArray, List.set_cons_zero, List.set_cons_succ]
    refine wpAnyH_take (i := 9) (oi := _) (v := ?_) rfl (by kernel_rfl) (by kernel_rfl) (by kernel_rfl) (fun _ _ _ h => h) (Or.inl ⟨by kernel_rfl, ?_⟩) (by assumption) ?_
    rotate_left 1
    · (intro w hSw; (try dsimp only at hSw); go_simp; all_goals (with_reducible rfl))
    try simp only [Act.put, List.setIfInBounds_toArray, List.set_cons_zero, List.set_cons_succ]
    refine wpAnyH_take (i := 10) (oi := _) (v := ?_) rfl (by kernel_rfl) (by kernel_rfl) (by kernel_rfl) (fun _ _ _ h => h) (Or.inl ⟨by kernel_rfl, ?_⟩) (by assumption) ?_
    rotate_left 1
    · (intro w hSw; (try dsimp only at hSw); go_simp; all_goals (with_reducible rfl))
    try simp only [Act.put, List.setIfInBounds_toArray, List.set_cons_zero, List.set_cons_succ]
    refine wpAnyH_take (i := 11) (oi := _) (v := ?_) rfl (by kernel_rfl) (by kernel_rfl) (by kernel_rfl) (fun _ _ _ h => h) (Or.inl ⟨by kernel_rfl, ?_⟩) (by assumption) ?_
    rotate_left 1
    · (intro w hSw; (try dsimp only at hSw); go_simp; all_goals (with_reducible rfl))
    try simp only [Act.put, List.setIfInBounds_toArray, List.set_cons_zero, List.set_cons_succ]
    refine wpAnyH_take (i := 12) (oi := _) (v := ?_) rfl (by kernel_rfl) (by kernel_rfl) (by kernel_rfl) (fun _ _ _ h => h) (Or.inl ⟨by kernel_rfl, ?_⟩) (by assumption) ?_
    rotate_left 1
    · (intro w hSw; (try dsimp only at hSw); go_simp; all_goals (with_reducible rfl))
    try simp only [Act.put, List.setIfInBounds_toArray, List.set_cons_zero, List.set_cons_succ]
    refine wpAnyH_ready (rs := [13]) (by kernel_rfl) (by simp) ?_
    refine AllReadyH.cons (o := _) rfl (fun K hK => ?_) ?_
    rotate_left 1
    · exact AllReadyH.nil
    refine step_cp (by kernel_rfl) (.tmp 58) (.tmp 67) 22 22 (by kernel_rfl) 5 Tryd.underlying22 hszB (some ⟨k, 0, none⟩) a2 n c m (c - off) (by kernel_rfl) (by kernel_rfl) k 0 cur _ hk3 (bvs l) (by rw [bvs_length, HMM.out];exact (Nat.min_eq_left (by omega)).symm) (fun _ => rfl) hr3 (by rw [bvs_length, HMM.out];omega) (bvs_oneCell l) ?_
    intro w2 hZ2 hg2
    have hRb : Raw w2 g (some ⟨k, 0, none⟩) n c off lr br := (hg2.block g HLT.out (by intro e;cases e;exact hkg rfl)).trans HW.out
    refine hK.out _ _ ?_ (fun hHeld => ?_)
    · (exact ⟨cell_of_row w2 g 0 _ _ _ hRb, cell_of_row w2 g 1 _ _ _ hRb⟩)
    clear hK K
    try simp only [Act.put, List.setIfInBounds_toArray, List.set_cons_zero, List.set_cons_succ]
    refine wpAnyH_done (by kernel_rfl) ?_ _
    refine NoPanic.normal ?_
    clear c0 c1 f0 f1 hHeld
    have c0 := cell_of_row w2 g 0 _ _ _ hRb
    have c1 := cell_of_row w2 g 1 _ _ _ hRb
    have f0 := frozen_of_row w2 g 0 _ _ hRb
    have f1 := frozen_of_row w2 g 1 _ _ hRb
    have bp : (0 : Int) ≤ (m : Int) + (p : Int) ∧ (m : Int) + (p : Int) ≤ (c : Int) := by omega
    (repeat' ((fail_if_success at_builtin); first | go_values | go_skip | go_guarded | go_step | go_upon))
    go_ret
    have hst := splice_take cur (bvs l) (by rw [bvs_length, HMM.out]; omega)
    have hFr : Frm w.heap.size (fun j => j = g ∨ some (⟨k, 0, none⟩ : Addr) = some ⟨j, 0, none⟩) w w2 := (Frm.refl _ _ w).drew.drew.grown hg2 (Nat.le_refl _) (fun j e _ => by cases e; exact Or.inr rfl)
    refine ⟨rfl, k, c, lr, _, set_at (set_at hRb 1 _) 0 _, hkg, ?_, by rw [hst.1]; exact hcs, by omega, by unfold maxLen; omega, ?_, Or.inl rfl, ((hFr.setCell (fun _ => Or.inl rfl) _).setCell (fun _ => Or.inl rfl) _)⟩
    · rw [Below.heap_setCell _ _ _ _ (by show k ≠ g; exact hkg), Below.heap_setCell _ _ _ _ (by show k ≠ g; exact hkg)]; exact hZ2
    · have h2 := hst.2
      rw [bvs_length, HMM.out] at h2
      exact h2

end Go.Proofs.YthgaghpakioglaaDoor
