/- An event in memory of its own (streams.fresh). -/
import Derived.Test.YthgaghpakioglaaEv
import Derived.Test.YthgaghpakioglaaClone
namespace Go.Proofs.Ythgaghpakioglaa
set_option linter.unusedSimpArgs false
set_option linter.unusedVariables false
open Go.RowKit
set_option maxRecDepth 10000
--@PUT2

def FreshR (w : World) (e : Ev) (r : Ending) (w' : World) : Prop :=
  ∃ (a : Option Addr) (c : Nat), r = .returned (.agg ({ e with sa := a, sc := c } : Ev).cells.toArray) ∧ ({ e with sa := a, sc := c } : Ev).Rd w.heap.size w' ∧ Below w.heap.size w w'

set_option maxHeartbeats 1000000 in
theorem freshOf (e : Ev) (w : World) (hr : RdB w e.sa e.sl) (hl : e.sl.length = e.sn) (hn : e.sn ≤ 140737488351232) : Calls Try.prog 55 #[.agg e.cells.toArray] w (FreshR w e) := by
  obtain ⟨st, su, v, p, u, sa, sn, sc, sl⟩ := e
  dsimp only at hn
  dsimp only at hr hl
  have HRD := Lib.hid hr
  have HLEN := Lib.hid hl
  clear hr hl
  unfold Ev.cells
  dsimp only
  obtain ⟨w0, hw0⟩ : ∃ w0, (w.alloc (.cells #[.string st, .string su, .int .i64 v, .int .i64 p, .int .i64 u, .slice sa sn sc] 54)).alloc (.cells #[.string ⟨#[]⟩, .string ⟨#[]⟩, .int .i64 0, .int .i64 0, .int .i64 0, .slice none 0 0] 54) = w0 := ⟨_, rfl⟩
  have hB0 : Below w.heap.size w w0 := by rw [← hw0]; exact ((Below.refl _ _).alloc (Nat.le_refl _) _).alloc (by simp) _
  have hs0 : w0.heap.size = w.heap.size + 2 := by rw [← hw0]; simp
  have he0 : w0.heap[w.heap.size]? = some (.cells #[.string st, .string su, .int .i64 v, .int .i64 p, .int .i64 u, .slice sa sn sc] 54 (0, 0)) := by rw [← hw0, Go.heap_alloc_old _ _ (by simp)]; exact heap_alloc_new w _
  have hr0 : w0.heap[w.heap.size + 1]? = some (.cells #[.string ⟨#[]⟩, .string ⟨#[]⟩, .int .i64 0, .int .i64 0, .int .i64 0, .slice none 0 0] 54 (0, 0)) := by
    have := heap_alloc_new (w.alloc (.cells #[.string st, .string su, .int .i64 v, .int .i64 p, .int .i64 u, .slice sa sn sc] 54)) (.cells #[.string ⟨#[]⟩, .string ⟨#[]⟩, .int .i64 0, .int .i64 0, .int .i64 0, .slice none 0 0] 54)
    rw [hw0] at this
    simpa using this
  have q5 : w0.cell? ⟨w.heap.size, 5, none⟩ = some (.slice sa sn sc) := cell_of_row w0 w.heap.size 5 _ _ _ he0
  have HW := Lib.hid hw0
  have HE0 := Lib.hid he0
  have HR0 := Lib.hid hr0
  clear hw0 he0 hr0
  go_enter Try.func55, Try.ntmps55
  (repeat' ((fail_if_success at_builtin); first | go_values | go_skip | go_guarded | go_step | go_upon))
  rw [HW.out]
  refine (bytesClone sa sn sc sl w0 (HRD.out.below hB0 (Nat.le_refl _)) HLEN.out hn).mono ?_
  rintro _ w1 ⟨a1, c1, rfl, hc1, hr1, hB1, hO1⟩
  dsimp only
  have he1 := row_below HE0.out hB1 (by omega)
  have hr1' := row_below HR0.out hB1 (by omega)
  have hB01 : Below w.heap.size w w1 := hB0.trans (hB1.mono hB0.size)
  have hs1 : w.heap.size + 2 ≤ w1.heap.size := by have := hB1.size; omega
  have k5 : w1.cell? ⟨w.heap.size, 5, none⟩ = some (.slice sa sn sc) := cell_of_row w1 w.heap.size 5 _ _ _ he1
  have f5 := frozen_of_row w1 w.heap.size 5 _ _ he1
  have he2 := row_setC (o := 5) he1 (.slice a1 sn c1)
  have hg2 := grownBy_setCell' w1 w.heap.size (.slice a1 sn c1)
  have hF2 : Below w.heap.size w (w1.setCell ⟨w.heap.size, 5, none⟩ (.slice a1 sn c1)) := hB01.setCell (p := ⟨w.heap.size, 5, none⟩) (Nat.le_refl _) _
  have hblk : ∀ k, k ≠ w.heap.size → (w1.setCell ⟨w.heap.size, 5, none⟩ (.slice a1 sn c1)).heap[k]? = w1.heap[k]? := fun k hk => Below.heap_setCell _ _ _ _ (by intro e; exact hk e)
  have HX1 := Lib.hid he1
  have HE2 := Lib.hid he2
  have HR2 := Lib.hid ((hblk (w.heap.size + 1) (by omega)).trans hr1')
  have HBLK := Lib.hid hblk
  have HO1 := Lib.hid hO1
  have HR1 := Lib.hid hr1
  clear q5 he1 hr1' he2 hblk hO1 hr1 hg2
  (repeat' ((fail_if_success at_builtin); (fail_if_success (show wpList _ _ _ ({ dst := some 7, op := _, type := _, pos := _, after := _, guard := _ } :: _) _ _)); first | (fail) | go_values | go_skip | go_guarded | go_step | go_upon))
  obtain ⟨w2, hw2⟩ : ∃ w2, w1.setCell ⟨w.heap.size, 5, none⟩ (.slice a1 sn c1) = w2 := ⟨_, rfl⟩
  rw [hw2] at HE2 HR2 hF2 HBLK ⊢
  clear hw2
  obtain ⟨E2, hE2⟩ : ∃ E2 : Ev, E2 = ⟨st, su, v, p, u, a1, sn, c1, sl⟩ := ⟨_, rfl⟩
  have he2 : w2.heap[w.heap.size]? = some (.cells E2.cells.toArray 54 (0, 0)) := by rw [hE2]; exact HE2.out
  have hu := Try.underlying54
  refine wpList_load_mid rfl 54 _ rfl w.heap.size 0 rfl E2.cells _ (rangeAt_whole he2) hu rfl evSize ?_
  refine wpList_store_blk rfl 54 _ _ rfl (w.heap.size + 1) 0 E2.cells rfl rfl _ _ HR2.out (Nat.le_refl _) evSize E2.cells_oneCell ?_
  intro w3 hg3 hG3
  rw [splice_whole _ E2.cells (by rfl)] at hg3
  have hR := run_loadVar_mid (P := Try.prog) w3 (w.heap.size + 1) 0 54 E2.cells _ (rangeAt_whole hg3) hu rfl evSize
  have hB3 : Below w.heap.size w w3 := hF2.grown hG3 hF2.size (fun k e => by cases e; exact Nat.le_succ _)
  have hrd1 : E2.Rd w.heap.size w1 := by
    rw [hE2]
    exact ⟨HLEN.out, hc1, HR1.out, by have := typ_of_owns HO1.out; have hl : sl.length = sn := HLEN.out; rw [← hl] at this; exact this, fun _ b o e => by
      rcases HO1.out.2 with ⟨e2, _⟩ | ⟨g, cap, cur, e2, hb, _⟩
      · cases e2; cases e
      · cases e2; cases e; omega⟩
  have hrd2 : E2.Rd w.heap.size w2 := hrd1.of (Nat.le_refl _) fun b c fr hb => by
    rw [HBLK.out b (by intro e; subst e; rw [HX1.out] at hb; cases hb)]; exact hb
  have hrd3 : E2.Rd w.heap.size w3 := hrd2.typNe HR2.out (by decide) hG3
  have HR3 := Lib.hid hR
  have HE2' := Lib.hid hE2
  clear hR hE2
  (repeat' ((fail_if_success at_builtin); first | go_values | go_skip | go_guarded | go_step | go_upon))
  exact bodyPost_ret (results_cell rfl _ _ _ ⟨w.heap.size + 1, 0, none⟩ rfl _ HR3.out) rfl ⟨a1, c1, by rw [HE2'.out], by have := hrd3; rw [HE2'.out] at this; exact this, hB3⟩

end Go.Proofs.Ythgaghpakioglaa
