/- Connections in memory (package net): Waits. -/
import Derived.Test.YthgaghpakioglaaNetD
namespace Go.Proofs.Ythgaghpakioglaa
set_option linter.unusedSimpArgs false
set_option linter.unusedVariables false
open Go.RowKit
set_option maxRecDepth 10000
--@PUT2

theorem run_loadVar_int {P : Program} {w : World} {ty : TypeId} {a : Addr} {v : Value} {k : IntKind} (hu : P.underlying ty = some (.int k)) (h : w.cell? a = some v) : (loadVar ty a).run P w = .ok v w := by
  simp [loadVar, isAgg, run_underlying hu, h, TypeDesc.isRow, load, Sem.run, Sem.pure]

set_option maxHeartbeats 1000000 in
theorem netLen (g k z : Nat) (v : Value) (cs : List Conn) (w : World) (h : NetAt w g cs) (hk : k < cs.length) (hz : w.cell? ⟨z, 0, Option.none⟩ = some (.int .i64 0)) (hf : w.frozen? ⟨z, 0, Option.none⟩ = false) :
    Calls Try.prog 64 #[.pointer (some ⟨g, k * 3, Option.none⟩), .pointer (some ⟨z, 0, Option.none⟩)] w fun e w' => e = .returned (.tuple #[]) ∧ w' = w.setCell ⟨z, 0, Option.none⟩ (.int .i64 cs[k].wn) := by
  have hcell := (h.cell k hk).2.1
  have HN := Lib.hid h
  clear h
  generalize cs[k] = y at *
  go_enter Try.func64, Try.ntmps64
  (repeat' ((fail_if_success at_builtin); first | go_values | go_skip | go_guarded | go_step | go_upon))
  go_end0
  exact ⟨rfl, rfl⟩

/-- How many bytes wait. -/
def waitsN (cs : List Conn) (c : Int) : Nat := match connAt cs c with
  | Option.none => 0
  | some x => if x.op then x.wn else 0

set_option maxHeartbeats 1000000 in
theorem netWaits (g : Nat) (c : Int) (cs : List Conn) (w : World) (h : NetAt w g cs) (hc : -9223372036854775808 ≤ c ∧ c ≤ 9223372036854775807) :
    Calls Try.prog 36 #[.pointer (some ⟨g, 0, Option.none⟩), .int .i64 c] w fun e w' => e = .returned (.int .i64 (waitsN cs c)) ∧ Below w.heap.size w w' := by
  obtain ⟨w0, hw0⟩ : ∃ w0, w.alloc (.cells #[.int .i64 0] 3) = w0 := ⟨_, rfl⟩
  have hB0 : Below w.heap.size w w0 := by rw [← hw0]; exact (Below.refl _ _).alloc (Nat.le_refl _) _
  have hg0 : w0.heap[w.heap.size]? = some (.cells #[.int .i64 0] 3 (0, 0)) := by rw [← hw0]; exact heap_alloc_new w _
  have HN := Lib.hid (h.below hB0)
  have HW := Lib.hid hw0
  have HC := Lib.hid (show w0.cell? ⟨w.heap.size, 0, Option.none⟩ = some (.int .i64 0) from cell_of_row w0 w.heap.size 0 _ _ _ hg0)
  have HF := Lib.hid (frozen_of_row w0 w.heap.size 0 _ _ hg0)
  have HG := Lib.hid hg0
  clear hw0 hg0
  cases ho : isOpen cs c with
  | false =>
    have HRES := Lib.hid (show waitsN cs c = 0 by
      unfold waitsN
      unfold isOpen at ho
      cases hq : connAt cs c with
      | none => rfl
      | some x => rw [hq] at ho; simp at ho; simp [ho])
    have HO := Lib.hid ho
    clear h ho
    go_enter Try.func36, Try.ntmps36
    (repeat' ((fail_if_success at_builtin); first | go_values | go_skip | go_guarded | go_step | go_upon))
    rw [HW.out]
    refine (netWithNo g c cs _ w0 HN.out hc HO.out).mono ?_
    rintro _ w1 ⟨rfl, rfl⟩
    dsimp only
    have hcz := HC.out
    have hfz := HF.out
    (repeat' ((fail_if_success at_builtin); first | go_values | go_skip | go_guarded | go_step | go_upon))
    rw [HRES.out]
    have hcz2 : (w0.setCell ⟨w.heap.size, 0, Option.none⟩ (.int .i64 0)).cell? ⟨w.heap.size, 0, Option.none⟩ = some (.int .i64 0) := World.cell?_setCell_same' _ _ _ (by rw [HC.out]; rfl)
    have hR : (loadVar 3 ⟨w.heap.size, 0, Option.none⟩).run Try.prog (w0.setCell ⟨w.heap.size, 0, Option.none⟩ (.int .i64 0)) = .ok (.int .i64 0) (w0.setCell ⟨w.heap.size, 0, Option.none⟩ (.int .i64 0)) := run_loadVar_int Try.underlying3 hcz2
    exact bodyPost_ret (results_cell rfl _ _ _ ⟨w.heap.size, 0, Option.none⟩ rfl _ hR) rfl ⟨rfl, hB0.setCell (Nat.le_refl _) _⟩
  | true =>
    have h1 : 1 ≤ c ∧ c ≤ 8 := by
      rcases Classical.em (1 ≤ c ∧ c ≤ 8) with h | h
      · exact h
      · unfold isOpen at ho; rw [(connAt_none cs c h).1] at ho; cases ho
    obtain ⟨k, hk, hkc, hca, hcp⟩ := connAt_some h.len c h1
    have HRES := Lib.hid (show waitsN cs c = cs[k].wn by
      unfold waitsN
      unfold isOpen at ho
      rw [hca] at ho ⊢
      have ho2 : cs[k].op = true := ho
      simp only [ho2, if_true])
    have HO := Lib.hid ho
    have HP := Lib.hid (hcp g)
    have HK := Lib.hid hk
    clear h ho hca hcp hkc
    go_enter Try.func36, Try.ntmps36
    (repeat' ((fail_if_success at_builtin); first | go_values | go_skip | go_guarded | go_step | go_upon))
    rw [HW.out]
    refine (netWithWaits g k w.heap.size c cs w0 (fun _ w' => w' = w0.setCell ⟨w.heap.size, 0, Option.none⟩ (.int .i64 (cs[k]'HK.out).wn)) HN.out hc HO.out HP.out (netLen g k w.heap.size (.int .i64 0) cs w0 HN.out HK.out HC.out HF.out)).mono ?_
    rintro _ w1 ⟨rfl, _, rfl⟩
    dsimp only
    have hk := HK.out
    obtain ⟨N, hN⟩ : ∃ N, cs[k].wn = N := ⟨_, rfl⟩
    rw [hN] at HRES ⊢
    clear hN
    obtain ⟨w1, hw1⟩ : ∃ w1, w0.setCell ⟨w.heap.size, 0, Option.none⟩ (.int .i64 N) = w1 := ⟨_, rfl⟩
    have hcz : w1.cell? ⟨w.heap.size, 0, Option.none⟩ = some (.int .i64 N) := by rw [← hw1]; exact World.cell?_setCell_same' _ _ _ (by rw [HC.out]; rfl)
    have hfz : w1.frozen? ⟨w.heap.size, 0, Option.none⟩ = false := by rw [← hw1, World.frozen?_setCell]; exact HF.out
    have hB1 : Below w.heap.size w w1 := by rw [← hw1]; exact hB0.setCell (Nat.le_refl _) _
    rw [hw1]
    clear hw1
    (repeat' ((fail_if_success at_builtin); first | go_values | go_skip | go_guarded | go_step | go_upon))
    have hcz2 : (w1.setCell ⟨w.heap.size, 0, Option.none⟩ (.int .i64 N)).cell? ⟨w.heap.size, 0, Option.none⟩ = some (.int .i64 N) := World.cell?_setCell_same' _ _ _ (by rw [hcz]; rfl)
    have hR : (loadVar 3 ⟨w.heap.size, 0, Option.none⟩).run Try.prog (w1.setCell ⟨w.heap.size, 0, Option.none⟩ (.int .i64 N)) = .ok (.int .i64 N) (w1.setCell ⟨w.heap.size, 0, Option.none⟩ (.int .i64 N)) := run_loadVar_int Try.underlying3 hcz2
    exact bodyPost_ret (results_cell rfl _ _ _ ⟨w.heap.size, 0, Option.none⟩ rfl _ hR) rfl ⟨by rw [HRES.out], hB1.setCell (Nat.le_refl _) _⟩

end Go.Proofs.Ythgaghpakioglaa
