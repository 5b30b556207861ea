/- What package sealeryref01 computes: the words behind a block's own. -/
import Derived.Test.YtdpfemhfmofmlaaDoorRefWords
import Derived.StillTailTactics
import Derived.BigQuiet
namespace Go.Proofs.YtdpfemhfmofmlaaDoor
set_option linter.unusedSimpArgs false
open Go.RowKit
set_option maxRecDepth 10000

theorem cell_of_rd {w : World} {g off : Nat} {l : List UInt32} (h : RdC w (some ⟨g, off, none⟩) (wvs l)) (j : Nat) (hj : j < l.length) : w.cell? ⟨g, off + j, none⟩ = some (.int .u32 ((l[j]?.getD 0).toNat : Int)) := by
  rw [h.cell j (by rw [wvs_length]; exact hj), List.getElem?_eq_getElem hj]
  simp [wvs, wv]

structure RSpreadRel (base : Nat) (b : List UInt8) (w : World) (v i : Value) (wr : World) : Prop where
  out : ∃ t : Nat, 16 ≤ t ∧ t ≤ 64 ∧ i = .int .i64 t ∧ Below base w wr ∧ wr.ownsRow base 41 1 v t (wvs (wrow b t))

theorem wnext_ref (b : List UInt8) (t q15 q2 q7 q16 : Nat) (h15 : q15 + 15 = t) (h2 : q2 + 2 = t) (h7 : q7 + 7 = t) (h16 : q16 + 16 = t) (x15 x2 x7 x16 : UInt32)
    (e15 : (wrow b t)[q15]?.getD 0 = x15) (e2 : (wrow b t)[q2]?.getD 0 = x2) (e7 : (wrow b t)[q7]?.getD 0 = x7) (e16 : (wrow b t)[q16]?.getD 0 = x16) :
    wnext (wrow b t) = wadd (wadd (wadd x16 (wsig x15 7 18 3)) x7) (wsig x2 17 19 10) := by
  unfold wnext
  rw [wrow_length, show t - 16 = q16 by omega, show t - 15 = q15 by omega, show t - 7 = q7 by omega, show t - 2 = q2 by omega, e15, e2, e7, e16]

set_option maxHeartbeats 1000000 in
theorem refSpread (base : Nat) (a : Option Addr) (c : Nat) (b : List UInt8) (w : World) (hO : w.ownsRow base 41 1 (.slice a 16 c) 16 (wvs (wrow b 16))) (hbase : base ≤ w.heap.size) :
    Calls Tryd.prog 105 #[.slice a 16 c] w fun e w' => ∃ a' c', e = .returned (.slice a' 64 c') ∧ 64 ≤ c' ∧ RdC w' a' (wvs (wrow b 64)) ∧ Below base w w' ∧ w'.ownsRow base 41 1 (.slice a' 64 c') 64 (wvs (wrow b 64)) := by
  have HO0 := Lib.hid hO; clear hO
  go_enter Tryd.func105, Tryd.ntmps105
  (repeat' ((fail_if_success at_builtin); first | go_values | go_skip | go_guarded | go_step | go_upon))
  go_loopw [0, 3] (fun v i wr => RSpreadRel base b w v i wr) (fun _ i _ => 64 - (intOf i).toNat)
  case atStart => exact ⟨⟨16, by omega, by omega, rfl, Below.refl _ _, HO0.out⟩⟩
  case round =>
    obtain ⟨⟨t, ht16, ht, rfl, hB, hO⟩⟩ := hrel
    obtain ⟨a1, c1, rfl, hc1, _, _⟩ := owns_slice hO
    have hrd := rdc_of_owns hO
    have hbw : base ≤ wr.heap.size := Nat.le_trans hbase hB.size
    by_cases h64 : t < 64
    · obtain ⟨g, off, rfl, hglt⟩ := hrd.lt (by rw [wvs_length, wrow_length]; omega)
      obtain ⟨q15, hq15⟩ : ∃ q, q + 15 = t := ⟨t - 15, by omega⟩
      obtain ⟨q2, hq2⟩ : ∃ q, q + 2 = t := ⟨t - 2, by omega⟩
      obtain ⟨q7, hq7⟩ : ∃ q, q + 7 = t := ⟨t - 7, by omega⟩
      obtain ⟨q16, hq16⟩ : ∃ q, q + 16 = t := ⟨t - 16, by omega⟩
      have m15 : IntKind.i64.wrap ((t : Int) - 15) = (q15 : Int) := by rw [IntWalk.i64_in _ (by omega)]; omega
      have m2 : IntKind.i64.wrap ((t : Int) - 2) = (q2 : Int) := by rw [IntWalk.i64_in _ (by omega)]; omega
      have m7 : IntKind.i64.wrap ((t : Int) - 7) = (q7 : Int) := by rw [IntWalk.i64_in _ (by omega)]; omega
      have m16 : IntKind.i64.wrap ((t : Int) - 16) = (q16 : Int) := by rw [IntWalk.i64_in _ (by omega)]; omega
      have n15 : (t : Int) - 15 = (q15 : Int) := by omega
      have n2 : (t : Int) - 2 = (q2 : Int) := by omega
      have b15 : (0 : Int) ≤ (q15 : Int) ∧ (q15 : Int) < t := by omega
      have b2 : (0 : Int) ≤ (q2 : Int) ∧ (q2 : Int) < t := by omega
      have b7 : (0 : Int) ≤ (q7 : Int) ∧ (q7 : Int) < t := by omega
      have b16 : (0 : Int) ≤ (q16 : Int) ∧ (q16 : Int) < t := by omega
      have bt : (16 : Int) ≤ (t : Int) ∧ (t : Int) < 64 := by omega
      have hc : ∀ j, j < t → wr.cell? ⟨g, off + j, none⟩ = some (.int .u32 (((wrow b t)[j]?.getD 0).toNat : Int)) := by
        intro j hj
        have hjl : j < (wrow b t).length := by rw [wrow_length]; exact hj
        rw [hrd.cell j (by rw [wvs_length]; exact hjl), List.getElem?_eq_getElem hjl]
        simp [wvs, wv]
      have c15 := hc q15 (by omega)
      have c2 := hc q2 (by omega)
      have c7 := hc q7 (by omega)
      have c16 := hc q16 (by omega)
      clear hc hrd
      obtain ⟨x15, hx15⟩ : ∃ x, (wrow b t)[q15]?.getD 0 = x := ⟨_, rfl⟩
      obtain ⟨x2, hx2⟩ : ∃ x, (wrow b t)[q2]?.getD 0 = x := ⟨_, rfl⟩
      obtain ⟨x7, hx7⟩ : ∃ x, (wrow b t)[q7]?.getD 0 = x := ⟨_, rfl⟩
      obtain ⟨x16, hx16⟩ : ∃ x, (wrow b t)[q16]?.getD 0 = x := ⟨_, rfl⟩
      have hnx := wnext_ref b t q15 q2 q7 q16 hq15 hq2 hq7 hq16 x15 x2 x7 x16 hx15 hx2 hx7 hx16
      have hstep : wrow b (t + 1) = wrow b t ++ [wadd (wadd (wadd x16 (wsig x15 7 18 3)) x7) (wsig x2 17 19 10)] := by rw [wrow, if_neg (by omega), hnx]
      rw [hx15] at c15
      rw [hx2] at c2
      rw [hx7] at c7
      rw [hx16] at c16
      have g1 := w_shr x15 3 (by omega)
      have g2 := w_xor (rotr x15 7) (rotr x15 18)
      have g3 := w_xor (wxor (rotr x15 7) (rotr x15 18)) (wshr x15 3)
      have g4 := w_shr x2 10 (by omega)
      have g5 := w_xor (rotr x2 17) (rotr x2 19)
      have g6 := w_xor (wxor (rotr x2 17) (rotr x2 19)) (wshr x2 10)
      rw [show ((2 : Int) ^ 3) = 8 from rfl] at g1
      rw [show ((2 : Int) ^ 10) = 1024 from rfl] at g4
      have r1 : ((wshr x15 3).toNat : Int) % 4294967296 = ((wshr x15 3).toNat : Int) := by have := (wshr x15 3).toNat_lt; omega
      have r2 : ((wshr x2 10).toNat : Int) % 4294967296 = ((wshr x2 10).toNat : Int) := by have := (wshr x2 10).toNat_lt; omega
      obtain ⟨s0, hs0⟩ : ∃ s, wsig x15 7 18 3 = s := ⟨_, rfl⟩
      obtain ⟨s1, hs1⟩ : ∃ s, wsig x2 17 19 10 = s := ⟨_, rfl⟩
      rw [show wxor (wxor (rotr x15 7) (rotr x15 18)) (wshr x15 3) = s0 from hs0] at g3
      rw [show wxor (wxor (rotr x2 17) (rotr x2 19)) (wshr x2 10) = s1 from hs1] at g6
      rw [hs0, hs1] at hstep
      have p1 := w_add x16 s0
      have p2 := w_add (wadd x16 s0) x7
      have p3 := w_add (wadd (wadd x16 s0) x7) s1
      have p1w := (IntKind.wrap_u32 _).trans p1
      have p2w := (IntKind.wrap_u32 _).trans p2
      have p3w := (IntKind.wrap_u32 _).trans p3
      obtain ⟨X, hX⟩ : ∃ X, wadd (wadd (wadd x16 s0) x7) s1 = X := ⟨_, rfl⟩
      rw [hX] at p3 p3w hstep
      have HX16 := Lib.hid hx16
      have HX7 := Lib.hid hx7
      have HST := Lib.hid hstep; clear hstep
      have HO := Lib.hid hO; clear hO
      clear hx15 hx2 hx7 hx16 hnx hs0 hs1 hX hq15 hq2 hq7 hq16
      (repeat' ((fail_if_success at_builtin); first | go_values | go_skip | go_guarded | go_step | go_upon))
      refine (rightW x15 7 (by omega) wr).mono ?_
      rintro _ w1 ⟨rfl, rfl⟩
      dsimp only
      (repeat' ((fail_if_success at_builtin); first | go_values | go_skip | go_guarded | go_step | go_upon))
      refine (rightW x15 18 (by omega) wr).mono ?_
      rintro _ w1 ⟨rfl, rfl⟩
      dsimp only
      (repeat' ((fail_if_success at_builtin); first | go_values | go_skip | go_guarded | go_step | go_upon))
      refine (rightW x2 17 (by omega) wr).mono ?_
      rintro _ w1 ⟨rfl, rfl⟩
      dsimp only
      (repeat' ((fail_if_success at_builtin); first | go_values | go_skip | go_guarded | go_step | go_upon))
      refine (rightW x2 19 (by omega) wr).mono ?_
      rintro _ w1 ⟨rfl, rfl⟩
      dsimp only
      (repeat' ((fail_if_success at_builtin); first | go_values | go_skip | go_guarded | go_step | go_upon))
      refine wp_region_noPanic ?_
      refine wp_region_held_drew (S := fun w' => w'.cell? ⟨g, off + q16, none⟩ = some (.int .u32 (x16.toNat : Int)) ∧ w'.cell? ⟨g, off + q7, none⟩ = some (.int .u32 (x7.toNat : Int))) (by kernel_rfl) ?_ (fun hHeld => ?_)
      · (exact ⟨c16, c7⟩)
      refine wpAnyH_take (i := 0) (oi := _) (v := ?_) rfl (by kernel_rfl) (by kernel_rfl) (by kernel_rfl) (fun _ _ _ h => h) (Or.inl ⟨by rfl, ?_⟩) (by assumption) ?_
      rotate_left 1
      · (intro w hSw; (try dsimp only at hSw); go_simp; all_goals (with_reducible rfl))
      try simp only [Act.put, List.setIfInBounds_toArray, List.set_cons_zero, List.set_cons_succ]
      refine wpAnyH_take (i := 1) (oi := _) (v := ?_) rfl (by kernel_rfl) (by kernel_rfl) (by kernel_rfl) (fun _ _ _ h => h) (Or.inl ⟨by rfl, ?_⟩) (by assumption) ?_
      rotate_left 1
      · (intro w hSw; (try dsimp only at hSw); go_simp; all_goals (with_reducible rfl))
      try simp only [Act.put, List.setIfInBounds_toArray, List.set_cons_zero, List.set_cons_succ]
      refine wpAnyH_take (i := 2) (oi := _) (v := ?_) rfl (by kernel_rfl) (by kernel_rfl) (by kernel_rfl) (fun _ _ _ h => h) (Or.inl ⟨by rfl, ?_⟩) (by assumption) ?_
      rotate_left 1
      · (intro w hSw; (try dsimp only at hSw); go_simp; all_goals (with_reducible rfl))
      try simp only [Act.put, List.setIfInBounds_toArray, List.set_cons_zero, List.set_cons_succ]
      refine wpAnyH_take (i := 3) (oi := _) (v := ?_) rfl (by kernel_rfl) (by kernel_rfl) (by kernel_rfl) (fun _ _ _ h => h) (Or.inl ⟨by rfl, ?_⟩) (by assumption) ?_
      rotate_left 1
      · (intro w hSw; (try dsimp only at hSw); go_simp; all_goals (with_reducible rfl))
      try simp only [Act.put, List.setIfInBounds_toArray, List.set_cons_zero, List.set_cons_succ]
      refine wpAnyH_take (i := 4) (oi := _) (v := ?_) rfl (by kernel_rfl) (by kernel_rfl) (by kernel_rfl) (fun _ _ _ h => h) (Or.inl ⟨by rfl, ?_⟩) (by assumption) ?_
      rotate_left 1
      · (intro w hSw; (try dsimp only at hSw); go_simp; all_goals (with_reducible rfl))
      try simp only [Act.put, List.setIfInBounds_toArray, List.set_cons_zero, List.set_cons_succ]
      refine wpAnyH_take (i := 5) (oi := _) (v := ?_) rfl (by kernel_rfl) (by kernel_rfl) (by kernel_rfl) (fun _ _ _ h => h) (Or.inl ⟨by rfl, ?_⟩) (by assumption) ?_
      rotate_left 1
      · (intro w hSw; (try dsimp only at hSw); go_simp; all_goals (with_reducible rfl))
      try simp only [Act.put, List.setIfInBounds_toArray, List.set_cons_zero, List.set_cons_succ]
      refine wpAnyH_take (i := 6) (oi := _) (v := ?_) rfl (by kernel_rfl) (by kernel_rfl) (by kernel_rfl) (fun _ _ _ h => h) (Or.inl ⟨by rfl, ?_⟩) (by assumption) ?_
      rotate_left 1
      · (intro w hSw; (try dsimp only at hSw); go_simp; all_goals (with_reducible rfl))
      try simp only [Act.put, List.setIfInBounds_toArray, List.set_cons_zero, List.set_cons_succ]
      refine wpAnyH_take (i := 7) (oi := _) (v := ?_) rfl (by kernel_rfl) (by kernel_rfl) (by kernel_rfl) (fun _ _ _ h => h) (Or.inl ⟨by rfl, ?_⟩) (by assumption) ?_
      rotate_left 1
      · (intro w hSw; (try dsimp only at hSw); go_simp; all_goals (with_reducible rfl))
      try simp only [Act.put, List.setIfInBounds_toArray, List.set_cons_zero, List.set_cons_succ]
      refine wpAnyH_take (i := 8) (oi := _) (v := ?_) rfl (by kernel_rfl) (by kernel_rfl) (by kernel_rfl) (fun _ _ _ h => h) (Or.inl ⟨by rfl, ?_⟩) (by assumption) ?_
      rotate_left 1
      · (intro w hSw; (try dsimp only at hSw); go_simp; all_goals (with_reducible rfl))
      try simp only [Act.put, List.setIfInBounds_toArray, List.set_cons_zero, List.set_cons_succ]
      refine wpAnyH_take (i := 9) (oi := _) (v := ?_) rfl (by kernel_rfl) (by kernel_rfl) (by kernel_rfl) (fun _ _ _ h => h) (Or.inl ⟨by rfl, ?_⟩) (by assumption) ?_
      rotate_left 1
      · (intro w hSw; (try dsimp only at hSw); go_simp; all_goals (with_reducible rfl))
      try simp only [Act.put, List.setIfInBounds_toArray, List.set_cons_zero, List.set_cons_succ]
      refine wpAnyH_take (i := 10) (oi := _) (v := ?_) rfl (by kernel_rfl) (by kernel_rfl) (by kernel_rfl) (fun _ _ _ h => h) (Or.inl ⟨by rfl, ?_⟩) (by assumption) ?_
      rotate_left 1
      · (intro w hSw; (try dsimp only at hSw); go_simp; all_goals (with_reducible rfl))
      try simp only [Act.put, List.setIfInBounds_toArray, List.set_cons_zero, List.set_cons_succ]
      refine wpAnyH_take (i := 11) (oi := _) (v := ?_) rfl (by kernel_rfl) (by kernel_rfl) (by kernel_rfl) (fun _ _ _ h => h) (Or.inl ⟨by rfl, ?_⟩) (by assumption) ?_
      rotate_left 1
      · (intro w hSw; (try dsimp only at hSw); go_simp; all_goals (with_reducible rfl))
      try simp only [Act.put, List.setIfInBounds_toArray, List.set_cons_zero, List.set_cons_succ]
      refine wpAnyH_take (i := 12) (oi := _) (v := ?_) rfl (by kernel_rfl) (by kernel_rfl) (by kernel_rfl) (fun _ _ _ h => h) (Or.inl ⟨by rfl, ?_⟩) (by assumption) ?_
      rotate_left 1
      · (intro w hSw; (try dsimp only at hSw); go_simp; all_goals (with_reducible rfl))
      try simp only [Act.put, List.setIfInBounds_toArray, List.set_cons_zero, List.set_cons_succ]
      refine wpAnyH_take (i := 13) (oi := _) (v := ?_) rfl (by kernel_rfl) (by kernel_rfl) (by kernel_rfl) (fun _ _ _ h => h) (Or.inl ⟨by rfl, ?_⟩) (by assumption) ?_
      rotate_left 1
      · (intro w hSw; (try dsimp only at hSw); go_simp; all_goals (with_reducible rfl))
      try simp only [Act.put, List.setIfInBounds_toArray, List.set_cons_zero, List.set_cons_succ]
      refine wpAnyH_take (i := 14) (oi := _) (v := ?_) rfl (by kernel_rfl) (by kernel_rfl) (by kernel_rfl) (fun _ _ _ h => h) (Or.inl ⟨by rfl, ?_⟩) (by assumption) ?_
      rotate_left 1
      · (intro w hSw; (try dsimp only at hSw); go_simp; all_goals (with_reducible rfl))
      try simp only [Act.put, List.setIfInBounds_toArray, List.set_cons_zero, List.set_cons_succ]
      refine wpAnyH_take (i := 15) (oi := _) (v := ?_) rfl (by kernel_rfl) (by kernel_rfl) (by kernel_rfl) (fun _ _ _ h => h) (Or.inl ⟨by rfl, ?_⟩) (by assumption) ?_
      rotate_left 1
      · (intro w hSw; (try dsimp only at hSw); go_simp; all_goals (with_reducible rfl))
      try simp only [Act.put, List.setIfInBounds_toArray, List.set_cons_zero, List.set_cons_succ]
      refine wpAnyH_ready (rs := [16]) (by kernel_rfl) (by simp) ?_
      refine AllReadyH.cons (o := _) rfl (fun K hK => ?_) ?_
      rotate_left 1
      · exact AllReadyH.nil
      go_simp
      refine hK.out _ _ ?_ (fun hHeld => ?_)
      · (exact ⟨cell_allocD hHeld.1, cell_allocD hHeld.2⟩)
      clear hK K
      try simp only [Act.put, List.setIfInBounds_toArray, List.set_cons_zero, List.set_cons_succ]
      refine wpAnyH_ready (rs := [17]) (by kernel_rfl) (by simp) ?_
      refine AllReadyH.cons (o := _) rfl (fun K hK => ?_) ?_
      rotate_left 1
      · exact AllReadyH.nil
      refine app32s wr _ X rfl _ _ rfl base _ t (wrow b t) rfl HO.out (still_drew1 _) rfl (by omega) hbw ?_
      intro v1' w1 hO1 hg1 hk1
      refine hK.out _ _ ?_ (fun hHeld => ?_)
      · (exact ⟨(cell_of_rd (hk1 _ _ _ rfl) q16 (by rw [wrow_length]; omega)).trans (by rw [HX16.out]), (cell_of_rd (hk1 _ _ _ rfl) q7 (by rw [wrow_length]; omega)).trans (by rw [HX7.out])⟩)
      clear hK K
      try simp only [Act.put, List.setIfInBounds_toArray, List.set_cons_zero, List.set_cons_succ]
      refine wpAnyH_take (i := 18) (oi := _) (v := ?_) rfl (by kernel_rfl) (by kernel_rfl) (by kernel_rfl) (fun _ _ _ h => h) (Or.inl ⟨by rfl, ?_⟩) (by assumption) ?_
      rotate_left 1
      · (intro w hSw; (try dsimp only at hSw); go_simp; all_goals (with_reducible rfl))
      try simp only [Act.put, List.setIfInBounds_toArray, List.set_cons_zero, List.set_cons_succ]
      refine wpAnyH_done (by kernel_rfl) ?_ _
      refine NoPanic.normal ?_
      have HO1 := Lib.hid hO1; clear hO1
      clear hHeld hk1
      (repeat' ((fail_if_success at_builtin); first | go_values | go_skip | go_guarded | go_step | go_upon))
      go_roundw
      case rel =>
        go_light
        exact ⟨⟨t + 1, by omega, by omega, by go_num, hB.grown hg1 hbw (fun g e => (HO.out.lt g e).1), by rw [HST.out]; exact HO1.out⟩⟩
      case measure => go_light; simp [intOf]; omega
    · have ht64 : t = 64 := by omega
      rw [ht64] at hO
      have b64 : ¬ ((t : Int) < 64) := by omega
      have hrd64 : RdC wr a1 (wvs (wrow b 64)) := rdc_of_owns hO
      have hc64 : 64 ≤ c1 := by omega
      have hv : Value.slice a1 t c1 = Value.slice a1 64 c1 := by rw [ht64]
      have HO := Lib.hid hO; clear hO
      have HRD := Lib.hid hrd64; clear hrd64 hrd
      have HV := Lib.hid hv; clear hv ht64
      (repeat' ((fail_if_success at_builtin); first | go_values | go_skip | go_guarded | go_step | go_upon))
      go_ret
      exact ⟨a1, c1, congrArg Ending.returned HV.out, hc64, HRD.out, hB, HO.out⟩

end Go.Proofs.YtdpfemhfmofmlaaDoor
