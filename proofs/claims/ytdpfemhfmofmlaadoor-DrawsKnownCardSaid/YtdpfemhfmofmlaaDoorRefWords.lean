/- What package sealeryref01 computes: a block's words. -/
import Derived.Test.YtdpfemhfmofmlaaDoorApp
import Derived.Test.YtdpfemhfmofmlaaDoorRot
import Derived.IntWalk
namespace Go.Proofs.YtdpfemhfmofmlaaDoor
set_option linter.unusedSimpArgs false
open Go.RowKit
set_option maxRecDepth 10000

theorem u32_at (n : Nat) (h : n < 4294967296) : IntKind.u32.wrap (n : Int) = (n : Int) := by rw [IntKind.wrap_u32]; omega

/-- A word out of four bytes, each sum by its name. -/
theorem word4_sums (b : List UInt8) (t q0 q1 q2 q3 : Nat) (h0 : 4 * t = q0) (h1 : q0 + 1 = q1) (h2 : q0 + 2 = q2) (h3 : q0 + 3 = q3) : ∃ (c0 c1 c2 c3 : UInt8) (y0 y1 y2 z1 z2 : Nat),
    b[q0]?.getD 0 = c0 ∧ b[q1]?.getD 0 = c1 ∧ b[q2]?.getD 0 = c2 ∧ b[q3]?.getD 0 = c3 ∧
    IntKind.u32.wrap (c0.toNat : Int) = (c0.toNat : Int) ∧ IntKind.u32.wrap (c1.toNat : Int) = (c1.toNat : Int) ∧ IntKind.u32.wrap (c2.toNat : Int) = (c2.toNat : Int) ∧ IntKind.u32.wrap (c3.toNat : Int) = (c3.toNat : Int) ∧
    IntKind.u32.wrap ((c0.toNat : Int) * 16777216) = (y0 : Int) ∧ IntKind.u32.wrap ((c1.toNat : Int) * 65536) = (y1 : Int) ∧ IntKind.u32.wrap ((c2.toNat : Int) * 256) = (y2 : Int) ∧
    IntKind.u32.wrap ((y0 : Int) + (y1 : Int)) = (z1 : Int) ∧ IntKind.u32.wrap ((z1 : Int) + (y2 : Int)) = (z2 : Int) ∧ IntKind.u32.wrap ((z2 : Int) + (c3.toNat : Int)) = ((word4 b t).toNat : Int) := by
  have l0 := (b[q0]?.getD 0).toNat_lt
  have l1 := (b[q1]?.getD 0).toNat_lt
  have l2 := (b[q2]?.getD 0).toNat_lt
  have l3 := (b[q3]?.getD 0).toNat_lt
  refine ⟨_, _, _, _, (b[q0]?.getD 0).toNat * 16777216, (b[q1]?.getD 0).toNat * 65536, (b[q2]?.getD 0).toNat * 256, (b[q0]?.getD 0).toNat * 16777216 + (b[q1]?.getD 0).toNat * 65536, (b[q0]?.getD 0).toNat * 16777216 + (b[q1]?.getD 0).toNat * 65536 + (b[q2]?.getD 0).toNat * 256, rfl, rfl, rfl, rfl, u32_small _, u32_small _, u32_small _, u32_small _, ?_, ?_, ?_, ?_, ?_, ?_⟩
  · rw [IntKind.wrap_u32]; omega
  · rw [IntKind.wrap_u32]; omega
  · rw [IntKind.wrap_u32]; omega
  · rw [IntKind.wrap_u32]; omega
  · rw [IntKind.wrap_u32]; omega
  · have e : (word4 b t).toNat = (b[q0]?.getD 0).toNat * 16777216 + (b[q1]?.getD 0).toNat * 65536 + (b[q2]?.getD 0).toNat * 256 + (b[q3]?.getD 0).toNat := by
      unfold word4
      rw [h0, h1, h2, h3, UInt32.toNat_ofNat', Nat.mod_eq_of_lt (by omega)]
      omega
    rw [e, IntKind.wrap_u32]
    omega

structure WordsRel (b : List UInt8) (w : World) (v i : Value) (wr : World) : Prop where
  out : ∃ k : Nat, k ≤ 16 ∧ i = .int .i64 ((4 * k : Nat) : Int) ∧ Below w.heap.size w wr ∧ wr.ownsRow w.heap.size 41 1 v k (wvs (wrow b k))

set_option maxHeartbeats 1000000 in
theorem refWords (a : Option Addr) (c : Nat) (b : List UInt8) (w : World) (hr : RdB w a b) (hl : b.length = 64) :
    Calls Tryd.prog 106 #[.slice a 64 c] w (GotW w 16 (wrow b 16)) := by
  obtain ⟨g, off, rfl, hglt⟩ := hr.lt (by rw [bvs_length]; omega)
  have HR := Lib.hid hr; clear hr
  have HL := Lib.hid hl; clear hl
  go_enter Tryd.func106, Tryd.ntmps106
  (repeat' ((fail_if_success at_builtin); first | go_values | go_skip | go_guarded | go_step | go_upon))
  go_loopw [3, 4] (fun v i wr => WordsRel b w v i wr) (fun _ i _ => 64 - (intOf i).toNat)
  case atStart => exact ⟨⟨0, by omega, rfl, Below.refl _ _, World.ownsRow_nil _ _ _ _⟩⟩
  case round =>
    obtain ⟨⟨k, hk, rfl, hB, hO⟩⟩ := hrel
    obtain ⟨q0, hq0⟩ : ∃ q0, 4 * k = q0 := ⟨_, rfl⟩
    rw [hq0]
    by_cases hlt : k < 16
    · obtain ⟨q1, hq1⟩ : ∃ q1, q0 + 1 = q1 := ⟨_, rfl⟩
      obtain ⟨q2, hq2⟩ : ∃ q2, q0 + 2 = q2 := ⟨_, rfl⟩
      obtain ⟨q3, hq3⟩ : ∃ q3, q0 + 3 = q3 := ⟨_, rfl⟩
      have hc : ∀ j, j < 64 → wr.cell? ⟨g, off + j, none⟩ = some (.int .u8 ((b[j]?.getD 0).toNat : Int)) := by
        intro j hj
        have hj' : j < (bvs b).length := by rw [bvs_length, HL.out]; exact hj
        rw [(HR.out.below hB (Nat.le_refl _)).cell j hj']
        rw [List.getElem?_eq_getElem (by rw [HL.out]; exact hj)]
        simp [bvs, bv]
      have c0 := hc q0 (by omega)
      have c1 := hc q1 (by omega)
      have c2 := hc q2 (by omega)
      have c3 := hc q3 (by omega)
      clear hc
      obtain ⟨x0, x1, x2, x3, y0, y1, y2, z1, z2, e0, e1, e2, e3, u0, u1, u2, u3, v0, v1, v2, s1, s2, s3⟩ := word4_sums b k q0 q1 q2 q3 hq0 hq1 hq2 hq3
      rw [e0] at c0
      rw [e1] at c1
      rw [e2] at c2
      rw [e3] at c3
      clear e0 e1 e2 e3
      have hsn : wrow b (k + 1) = wrow b k ++ [word4 b k] := by rw [wrow, if_pos hlt]
      have m1 : IntKind.i64.wrap ((q0 : Int) + 1) = (q1 : Int) := by rw [IntWalk.i64_in _ (by omega)]; omega
      have m2 : IntKind.i64.wrap ((q0 : Int) + 2) = (q2 : Int) := by rw [IntWalk.i64_in _ (by omega)]; omega
      have m3 : IntKind.i64.wrap ((q0 : Int) + 3) = (q3 : Int) := by rw [IntWalk.i64_in _ (by omega)]; omega
      have b0 : (0 : Int) ≤ (q0 : Int) ∧ (q0 : Int) < 64 := by omega
      have b1 : (0 : Int) ≤ (q1 : Int) ∧ (q1 : Int) < 64 := by omega
      have b2 : (0 : Int) ≤ (q2 : Int) ∧ (q2 : Int) < 64 := by omega
      have b3 : (0 : Int) ≤ (q3 : Int) ∧ (q3 : Int) < 64 := by omega
      have htest : (q0 : Int) + 3 < 64 := by omega
      generalize word4 b k = x at *
      have HSN := Lib.hid hsn; clear hsn
      have hne : _ ≠ some g := fun e => absurd (hO.lt g e).1 (by omega)
      have hsz := hB.size
      have HO := Lib.hid hO; clear hO
      have HQ0 := Lib.hid hq0; clear hq0
      have HQ1 := Lib.hid hq1; clear hq1
      have HQ2 := Lib.hid hq2; clear hq2
      have HQ3 := Lib.hid hq3; clear hq3
      (repeat' ((fail_if_success at_builtin); first | go_values | go_skip | go_guarded | go_step | go_upon))
      refine wp_region_noPanic ?_
      refine wp_region_held_drew (S := fun w' => w'.cell? ⟨g, off + q0, none⟩ = some (.int .u8 (x0.toNat : Int)) ∧ w'.cell? ⟨g, off + q1, none⟩ = some (.int .u8 (x1.toNat : Int)) ∧ w'.cell? ⟨g, off + q2, none⟩ = some (.int .u8 (x2.toNat : Int)) ∧ w'.cell? ⟨g, off + q3, none⟩ = some (.int .u8 (x3.toNat : Int))) (by kernel_rfl) ?_ (fun hHeld => ?_)
      · (exact ⟨c0, c1, c2, c3⟩)
      refine wpAnyH_take (i := 0) (oi := _) (v := ?_) rfl (by kernel_rfl) (by kernel_rfl) (by kernel_rfl) (fun _ _ _ h => h) (Or.inl ⟨by rfl, ?_⟩) (by assumption) ?_
      rotate_left 1
      · (intro w hSw; (try dsimp only at hSw); go_simp; all_goals (with_reducible rfl))
      try simp only [Act.put, List.setIfInBounds_toArray, List.set_cons_zero, List.set_cons_succ]
      refine wpAnyH_take (i := 1) (oi := _) (v := ?_) rfl (by kernel_rfl) (by kernel_rfl) (by kernel_rfl) (fun _ _ _ h => h) (Or.inl ⟨by rfl, ?_⟩) (by assumption) ?_
      rotate_left 1
      · (intro w hSw; (try dsimp only at hSw); go_simp; all_goals (with_reducible rfl))
      try simp only [Act.put, List.setIfInBounds_toArray, List.set_cons_zero, List.set_cons_succ]
      refine wpAnyH_take (i := 2) (oi := _) (v := ?_) rfl (by kernel_rfl) (by kernel_rfl) (by kernel_rfl) (fun _ _ _ h => h) (Or.inl ⟨by rfl, ?_⟩) (by assumption) ?_
      rotate_left 1
      · (intro w hSw; (try dsimp only at hSw); go_simp; all_goals (with_reducible rfl))
      try simp only [Act.put, List.setIfInBounds_toArray, List.set_cons_zero, List.set_cons_succ]
      refine wpAnyH_take (i := 3) (oi := _) (v := ?_) rfl (by kernel_rfl) (by kernel_rfl) (by kernel_rfl) (fun _ _ _ h => h) (Or.inl ⟨by rfl, ?_⟩) (by assumption) ?_
      rotate_left 1
      · (intro w hSw; (try dsimp only at hSw); go_simp; all_goals (with_reducible rfl))
      try simp only [Act.put, List.setIfInBounds_toArray, List.set_cons_zero, List.set_cons_succ]
      refine wpAnyH_take (i := 4) (oi := _) (v := ?_) rfl (by kernel_rfl) (by kernel_rfl) (by kernel_rfl) (fun _ _ _ h => h) (Or.inl ⟨by rfl, ?_⟩) (by assumption) ?_
      rotate_left 1
      · (intro w hSw; (try dsimp only at hSw); go_simp; all_goals (with_reducible rfl))
      try simp only [Act.put, List.setIfInBounds_toArray, List.set_cons_zero, List.set_cons_succ]
      refine wpAnyH_take (i := 5) (oi := _) (v := ?_) rfl (by kernel_rfl) (by kernel_rfl) (by kernel_rfl) (fun _ _ _ h => h) (Or.inl ⟨by rfl, ?_⟩) (by assumption) ?_
      rotate_left 1
      · (intro w hSw; (try dsimp only at hSw); go_simp; all_goals (with_reducible rfl))
      try simp only [Act.put, List.setIfInBounds_toArray, List.set_cons_zero, List.set_cons_succ]
      refine wpAnyH_take (i := 6) (oi := _) (v := ?_) rfl (by kernel_rfl) (by kernel_rfl) (by kernel_rfl) (fun _ _ _ h => h) (Or.inl ⟨by rfl, ?_⟩) (by assumption) ?_
      rotate_left 1
      · (intro w hSw; (try dsimp only at hSw); go_simp; all_goals (with_reducible rfl))
      try simp only [Act.put, List.setIfInBounds_toArray, List.set_cons_zero, List.set_cons_succ]
      refine wpAnyH_take (i := 7) (oi := _) (v := ?_) rfl (by kernel_rfl) (by kernel_rfl) (by kernel_rfl) (fun _ _ _ h => h) (Or.inl ⟨by rfl, ?_⟩) (by assumption) ?_
      rotate_left 1
      · (intro w hSw; (try dsimp only at hSw); go_simp; all_goals (with_reducible rfl))
      try simp only [Act.put, List.setIfInBounds_toArray, List.set_cons_zero, List.set_cons_succ]
      refine wpAnyH_take (i := 8) (oi := _) (v := ?_) rfl (by kernel_rfl) (by kernel_rfl) (by kernel_rfl) (fun _ _ _ h => h) (Or.inl ⟨by rfl, ?_⟩) (by assumption) ?_
      rotate_left 1
      · (intro w hSw; (try dsimp only at hSw); go_simp; all_goals (with_reducible rfl))
      try simp only [Act.put, List.setIfInBounds_toArray, List.set_cons_zero, List.set_cons_succ]
      refine wpAnyH_take (i := 9) (oi := _) (v := ?_) rfl (by kernel_rfl) (by kernel_rfl) (by kernel_rfl) (fun _ _ _ h => h) (Or.inl ⟨by rfl, ?_⟩) (by assumption) ?_
      rotate_left 1
      · (intro w hSw; (try dsimp only at hSw); go_simp; all_goals (with_reducible rfl))
      try simp only [Act.put, List.setIfInBounds_toArray, List.set_cons_zero, List.set_cons_succ]
      refine wpAnyH_take (i := 10) (oi := _) (v := ?_) rfl (by kernel_rfl) (by kernel_rfl) (by kernel_rfl) (fun _ _ _ h => h) (Or.inl ⟨by rfl, ?_⟩) (by assumption) ?_
      rotate_left 1
      · (intro w hSw; (try dsimp only at hSw); go_simp; all_goals (with_reducible rfl))
      try simp only [Act.put, List.setIfInBounds_toArray, List.set_cons_zero, List.set_cons_succ]
      refine wpAnyH_take (i := 11) (oi := _) (v := ?_) rfl (by kernel_rfl) (by kernel_rfl) (by kernel_rfl) (fun _ _ _ h => h) (Or.inl ⟨by rfl, ?_⟩) (by assumption) ?_
      rotate_left 1
      · (intro w hSw; (try dsimp only at hSw); go_simp; all_goals (with_reducible rfl))
      try simp only [Act.put, List.setIfInBounds_toArray, List.set_cons_zero, List.set_cons_succ]
      refine wpAnyH_take (i := 12) (oi := _) (v := ?_) rfl (by kernel_rfl) (by kernel_rfl) (by kernel_rfl) (fun _ _ _ h => h) (Or.inl ⟨by rfl, ?_⟩) (by assumption) ?_
      rotate_left 1
      · (intro w hSw; (try dsimp only at hSw); go_simp; all_goals (with_reducible rfl))
      try simp only [Act.put, List.setIfInBounds_toArray, List.set_cons_zero, List.set_cons_succ]
      refine wpAnyH_take (i := 13) (oi := _) (v := ?_) rfl (by kernel_rfl) (by kernel_rfl) (by kernel_rfl) (fun _ _ _ h => h) (Or.inl ⟨by rfl, ?_⟩) (by assumption) ?_
      rotate_left 1
      · (intro w hSw; (try dsimp only at hSw); go_simp; all_goals (with_reducible rfl))
      try simp only [Act.put, List.setIfInBounds_toArray, List.set_cons_zero, List.set_cons_succ]
      refine wpAnyH_take (i := 14) (oi := _) (v := ?_) rfl (by kernel_rfl) (by kernel_rfl) (by kernel_rfl) (fun _ _ _ h => h) (Or.inl ⟨by rfl, ?_⟩) (by assumption) ?_
      rotate_left 1
      · (intro w hSw; (try dsimp only at hSw); go_simp; all_goals (with_reducible rfl))
      try simp only [Act.put, List.setIfInBounds_toArray, List.set_cons_zero, List.set_cons_succ]
      refine wpAnyH_take (i := 15) (oi := _) (v := ?_) rfl (by kernel_rfl) (by kernel_rfl) (by kernel_rfl) (fun _ _ _ h => h) (Or.inl ⟨by rfl, ?_⟩) (by assumption) ?_
      rotate_left 1
      · (intro w hSw; (try dsimp only at hSw); go_simp; all_goals (with_reducible rfl))
      try simp only [Act.put, List.setIfInBounds_toArray, List.set_cons_zero, List.set_cons_succ]
      refine wpAnyH_take (i := 16) (oi := _) (v := ?_) rfl (by kernel_rfl) (by kernel_rfl) (by kernel_rfl) (fun _ _ _ h => h) (Or.inl ⟨by rfl, ?_⟩) (by assumption) ?_
      rotate_left 1
      · (intro w hSw; (try dsimp only at hSw); go_simp; all_goals (with_reducible rfl))
      try simp only [Act.put, List.setIfInBounds_toArray, List.set_cons_zero, List.set_cons_succ]
      refine wpAnyH_take (i := 17) (oi := _) (v := ?_) rfl (by kernel_rfl) (by kernel_rfl) (by kernel_rfl) (fun _ _ _ h => h) (Or.inl ⟨by rfl, ?_⟩) (by assumption) ?_
      rotate_left 1
      · (intro w hSw; (try dsimp only at hSw); go_simp; all_goals (with_reducible rfl))
      try simp only [Act.put, List.setIfInBounds_toArray, List.set_cons_zero, List.set_cons_succ]
      refine wpAnyH_take (i := 18) (oi := _) (v := ?_) rfl (by kernel_rfl) (by kernel_rfl) (by kernel_rfl) (fun _ _ _ h => h) (Or.inl ⟨by rfl, ?_⟩) (by assumption) ?_
      rotate_left 1
      · (intro w hSw; (try dsimp only at hSw); go_simp; all_goals (with_reducible rfl))
      try simp only [Act.put, List.setIfInBounds_toArray, List.set_cons_zero, List.set_cons_succ]
      refine wpAnyH_take (i := 19) (oi := _) (v := ?_) rfl (by kernel_rfl) (by kernel_rfl) (by kernel_rfl) (fun _ _ _ h => h) (Or.inl ⟨by rfl, ?_⟩) (by assumption) ?_
      rotate_left 1
      · (intro w hSw; (try dsimp only at hSw); go_simp; all_goals (with_reducible rfl))
      try simp only [Act.put, List.setIfInBounds_toArray, List.set_cons_zero, List.set_cons_succ]
      refine wpAnyH_take (i := 20) (oi := _) (v := ?_) rfl (by kernel_rfl) (by kernel_rfl) (by kernel_rfl) (fun _ _ _ h => h) (Or.inl ⟨by rfl, ?_⟩) (by assumption) ?_
      rotate_left 1
      · (intro w hSw; (try dsimp only at hSw); go_simp; all_goals (with_reducible rfl))
      try simp only [Act.put, List.setIfInBounds_toArray, List.set_cons_zero, List.set_cons_succ]
      refine wpAnyH_take (i := 21) (oi := _) (v := ?_) rfl (by kernel_rfl) (by kernel_rfl) (by kernel_rfl) (fun _ _ _ h => h) (Or.inl ⟨by rfl, ?_⟩) (by assumption) ?_
      rotate_left 1
      · (intro w hSw; (try dsimp only at hSw); go_simp; all_goals (with_reducible rfl))
      try simp only [Act.put, List.setIfInBounds_toArray, List.set_cons_zero, List.set_cons_succ]
      refine wpAnyH_take (i := 22) (oi := _) (v := ?_) rfl (by kernel_rfl) (by kernel_rfl) (by kernel_rfl) (fun _ _ _ h => h) (Or.inl ⟨by rfl, ?_⟩) (by assumption) ?_
      rotate_left 1
      · (intro w hSw; (try dsimp only at hSw); go_simp; all_goals (with_reducible rfl))
      try simp only [Act.put, List.setIfInBounds_toArray, List.set_cons_zero, List.set_cons_succ]
      refine wpAnyH_take (i := 23) (oi := _) (v := ?_) rfl (by kernel_rfl) (by kernel_rfl) (by kernel_rfl) (fun _ _ _ h => h) (Or.inl ⟨by rfl, ?_⟩) (by assumption) ?_
      rotate_left 1
      · (intro w hSw; (try dsimp only at hSw); go_simp; all_goals (with_reducible rfl))
      try simp only [Act.put, List.setIfInBounds_toArray, List.set_cons_zero, List.set_cons_succ]
      refine wpAnyH_take (i := 24) (oi := _) (v := ?_) rfl (by kernel_rfl) (by kernel_rfl) (by kernel_rfl) (fun _ _ _ h => h) (Or.inl ⟨by rfl, ?_⟩) (by assumption) ?_
      rotate_left 1
      · (intro w hSw; (try dsimp only at hSw); go_simp; all_goals (with_reducible rfl))
      try simp only [Act.put, List.setIfInBounds_toArray, List.set_cons_zero, List.set_cons_succ]
      refine wpAnyH_take (i := 25) (oi := _) (v := ?_) rfl (by kernel_rfl) (by kernel_rfl) (by kernel_rfl) (fun _ _ _ h => h) (Or.inl ⟨by rfl, ?_⟩) (by assumption) ?_
      rotate_left 1
      · (intro w hSw; (try dsimp only at hSw); go_simp; all_goals (with_reducible rfl))
      try simp only [Act.put, List.setIfInBounds_toArray, List.set_cons_zero, List.set_cons_succ]
      refine wpAnyH_take (i := 26) (oi := _) (v := ?_) rfl (by kernel_rfl) (by kernel_rfl) (by kernel_rfl) (fun _ _ _ h => h) (Or.inl ⟨by rfl, ?_⟩) (by assumption) ?_
      rotate_left 1
      · (intro w hSw; (try dsimp only at hSw); go_simp; all_goals (with_reducible rfl))
      try simp only [Act.put, List.setIfInBounds_toArray, List.set_cons_zero, List.set_cons_succ]
      refine wpAnyH_take (i := 27) (oi := _) (v := ?_) rfl (by kernel_rfl) (by kernel_rfl) (by kernel_rfl) (fun _ _ _ h => h) (Or.inl ⟨by rfl, ?_⟩) (by assumption) ?_
      rotate_left 1
      · (intro w hSw; (try dsimp only at hSw); go_simp; all_goals (with_reducible rfl))
      try simp only [Act.put, List.setIfInBounds_toArray, List.set_cons_zero, List.set_cons_succ]
      refine wpAnyH_take (i := 28) (oi := _) (v := ?_) rfl (by kernel_rfl) (by kernel_rfl) (by kernel_rfl) (fun _ _ _ h => h) (Or.inl ⟨by rfl, ?_⟩) (by assumption) ?_
      rotate_left 1
      · (intro w hSw; (try dsimp only at hSw); go_simp; all_goals (with_reducible rfl))
      try simp only [Act.put, List.setIfInBounds_toArray, List.set_cons_zero, List.set_cons_succ]
      refine wpAnyH_take (i := 29) (oi := _) (v := ?_) rfl (by kernel_rfl) (by kernel_rfl) (by kernel_rfl) (fun _ _ _ h => h) (Or.inl ⟨by rfl, ?_⟩) (by assumption) ?_
      rotate_left 1
      · (intro w hSw; (try dsimp only at hSw); go_simp; all_goals (with_reducible rfl))
      try simp only [Act.put, List.setIfInBounds_toArray, List.set_cons_zero, List.set_cons_succ]
      refine wpAnyH_ready (rs := [30]) (by kernel_rfl) (by simp) ?_
      refine AllReadyH.cons (o := _) rfl (fun K hK => ?_) ?_
      rotate_left 1
      · exact AllReadyH.nil
      go_simp
      refine hK.out _ _ ?_ (fun hHeld => ?_)
      · (exact ⟨cell_allocD hHeld.1, cell_allocD hHeld.2.1, cell_allocD hHeld.2.2.1, cell_allocD hHeld.2.2.2⟩)
      clear hK K
      try simp only [Act.put, List.setIfInBounds_toArray, List.set_cons_zero, List.set_cons_succ]
      refine wpAnyH_ready (rs := [31]) (by kernel_rfl) (by simp) ?_
      refine AllReadyH.cons (o := _) rfl (fun K hK => ?_) ?_
      rotate_left 1
      · exact AllReadyH.nil
      refine app32s wr _ x rfl _ _ rfl w.heap.size _ k (wrow b k) rfl HO.out (still_drew1 _) rfl (by omega) hsz ?_
      intro v1' w1 hO1 hg1 _
      refine hK.out _ _ ?_ (fun hHeld => ?_)
      · (exact ⟨cell_grown hg1 c0 hne, cell_grown hg1 c1 hne, cell_grown hg1 c2 hne, cell_grown hg1 c3 hne⟩)
      clear hK K
      try simp only [Act.put, List.setIfInBounds_toArray, List.set_cons_zero, List.set_cons_succ]
      refine wpAnyH_take (i := 32) (oi := _) (v := ?_) rfl (by kernel_rfl) (by kernel_rfl) (by kernel_rfl) (fun _ _ _ h => h) (Or.inl ⟨by rfl, ?_⟩) (by assumption) ?_
      rotate_left 1
      · (intro w hSw; (try dsimp only at hSw); go_simp; all_goals (with_reducible rfl))
      try simp only [Act.put, List.setIfInBounds_toArray, List.set_cons_zero, List.set_cons_succ]
      refine wpAnyH_done (by kernel_rfl) ?_ _
      refine NoPanic.normal ?_
      have HO1 := Lib.hid hO1; clear hO1
      clear hHeld
      (repeat' ((fail_if_success at_builtin); first | go_values | go_skip | go_guarded | go_step | go_upon))
      go_roundw
      case rel =>
        go_light
        refine ⟨⟨k + 1, by omega, ?_, hB.grown hg1 hB.size (fun g e => (HO.out.lt g e).1), by rw [HSN.out]; exact HO1.out⟩⟩
        have h0 := HQ0.out
        congr 1
        omega
      case measure => go_light; simp [intOf]; omega
    · have htest : ¬ ((q0 : Int) + 3 < 64) := by omega
      have bq : (0 : Int) ≤ (q0 : Int) ∧ (q0 : Int) ≤ 64 := by omega
      have hk16 : k = 16 := by omega
      rw [hk16] at hO
      have HO := Lib.hid hO; clear hO
      clear hk16 hq0
      (repeat' ((fail_if_success at_builtin); first | go_values | go_skip | go_guarded | go_step | go_upon))
      go_ret
      exact gotW hB HO.out

end Go.Proofs.YtdpfemhfmofmlaaDoor
