/- A row is added to the reference's chains (sealeryref21.Log.Add), walked. -/
import Derived.Test.YtdpfemhfmofmlaaDoorRAdd
import Derived.Tactics2
namespace Go.Proofs.YtdpfemhfmofmlaaDoor
set_option linter.unusedSimpArgs false
set_option linter.unusedVariables false
open Go.RowKit
set_option maxRecDepth 10000
--@PUT2

theorem rows_fit {w : World} {S : Nat → Prop} {g cnt : Nat} {cs : List RCh} (h : RLogAt w S g cnt cs) (s : ByteArray) : (∀ y ∈ rowsOf cs s, y.Fit) ∧ (rowsOf cs s).length ≤ cnt := by
  refine ⟨fun y hy => by obtain ⟨x, hx, h2⟩ := rowsOf_mem hy; exact h.rows x hx y h2, ?_⟩
  unfold rowsOf
  cases e : cs.find? (fun x => decide (x.t = s)) with
  | none => simp
  | some x => exact h.len x (List.mem_of_find?_eq_some e)

abbrev AddR (g z : Nat) (v : Value) (r : Ent) (w' : World) : Prop := w'.cell? ⟨g, 0, none⟩ = some v ∧ w'.rangeAt z 0 r.cells
theorem addr_grown {g z : Nat} {v : Value} {r : Ent} {w w' : World} {o : Option Nat} (h : AddR g z v r w) (hg : w.grownBy w' o) (h1 : o ≠ some g) (h2 : o ≠ some z) : AddR g z v r w' :=
  ⟨cell_grown hg h.1 h1, fun j u hj => cell_grown hg (h.2 j u hj) h2⟩
theorem addr_below {g z : Nat} {v : Value} {r : Ent} {w w' : World} (h : AddR g z v r w) (hB : Below w.heap.size w w') : AddR g z v r w' :=
  ⟨cell_below hB h.1 (Nat.le_refl _), rangeAt_below h.2 hB (Nat.le_refl _)⟩
theorem addr_set {g z b o : Nat} {v u : Value} {r : Ent} {w : World} (h : AddR g z v r w) (h1 : b ≠ g) (h2 : z ≠ b) : AddR g z v r (w.setCell ⟨b, o, none⟩ u) := by
  have hG : w.grownBy (w.setCell ⟨b, o, none⟩ u) (some b) := ⟨rfl, rfl, rfl, by simp [World.setCell], fun k _ hk => Below.heap_setCell _ _ _ _ (fun e => hk (by rw [e]))⟩
  exact addr_grown h hG (fun e => h1 (Option.some.inj e)) (fun e => h2 (Option.some.inj e).symm)
abbrev AddZ (z : Nat) (r : Ent) (w' : World) : Prop := w'.rangeAt z 0 r.cells
theorem addz_grown {z : Nat} {r : Ent} {w w' : World} {o : Option Nat} (h : AddZ z r w) (hg : w.grownBy w' o) (h2 : o ≠ some z) : AddZ z r w' := fun j u hj => cell_grown hg (h j u hj) h2
theorem addz_below {z : Nat} {r : Ent} {w w' : World} (h : AddZ z r w) (hB : Below w.heap.size w w') : AddZ z r w' := rangeAt_below h hB (Nat.le_refl _)
theorem addz_set {z b o : Nat} {u : Value} {r : Ent} {w : World} (h : AddZ z r w) (h2 : z ≠ b) : AddZ z r (w.setCell ⟨b, o, none⟩ u) := by
  have hG : w.grownBy (w.setCell ⟨b, o, none⟩ u) (some b) := ⟨rfl, rfl, rfl, by simp [World.setCell], fun k _ hk => Below.heap_setCell _ _ _ _ (fun e => hk (by rw [e]))⟩
  exact addz_grown h hG (fun e => h2 (Option.some.inj e).symm)
theorem ownsRow_new {w : World} {g : Nat} {cs : List Value} {e size : Nat} (h : w.heap[g]? = some (.cells cs.toArray e (0, 0))) (hl : cs.length = size) : w.ownsRow 0 e size (.slice (some ⟨g, 0, none⟩) 1 1) 1 cs :=
  ⟨by rw [hl]; omega, .inr ⟨g, 1, _, rfl, Nat.zero_le _, h, Nat.le_refl _, by unfold maxLen; omega, by simp [hl], by rw [Nat.one_mul, List.take_of_length_le (by simp [hl])]⟩⟩
theorem rchInfo : (Tryd.prog.info? 129).map (fun i => (i.zero.map (·.cells), i.size, i.bytes)) = some (some #[.string ByteArray.empty, .slice none 0 0], 2, 40) := by kernel_rfl
theorem rchInfo_parts : ∃ i z, Tryd.prog.info? 129 = some i ∧ i.zero = some z ∧ i.size = 2 ∧ i.bytes = 40 ∧ z.cells = #[.string ByteArray.empty, .slice none 0 0] := by
  have h := rchInfo
  cases hi : Tryd.prog.info? 129 with
  | none => rw [hi] at h; cases h
  | some i =>
    rw [hi] at h
    simp only [Option.map_some, Option.some.injEq, Prod.mk.injEq] at h
    obtain ⟨h1, h2, h3⟩ := h
    cases hz : i.zero with
    | none => rw [hz] at h1; cases h1
    | some z => rw [hz] at h1; simp only [Option.map_some, Option.some.injEq] at h1; exact ⟨i, z, rfl, hz, h2, h3, h1⟩
/-- What stands when the row is made. -/
structure MadeR (w : World) (r : Ent) (wx : World) : Prop where
  below : Below w.heap.size w wx
  box : wx.heap[w.heap.size]? = some (.cells r.cells.toArray 73 (0, 0))
  res : wx.heap[w.heap.size + 1]? = some (.cells zEnt.cells.toArray 73 (0, 0))

set_option maxHeartbeats 4000000 in
theorem refAdd21 (S : Nat → Prop) (g cnt : Nat) (cs : List RCh) (s : ByteArray) (x r : Ent) (w : World) (h : RLogAt w S g cnt cs) (hc : cnt ≤ 100000) (hx : x.Fit) (hr : rowOf (rowsOf cs s) x = r) :
    Calls Tryd.prog 60 #[.pointer (some ⟨g, 0, none⟩), .string s, .agg x.cells.toArray] w fun e w' => e = .returned (.agg r.cells.toArray) ∧ (∃ cs', RLogAt w' (fun k => S k ∨ (w.heap.size ≤ k ∧ k < w'.heap.size)) g (cnt + 1) cs' ∧ ∀ u, rowsOf cs' u = if u = s then rowsOf cs s ++ [r] else rowsOf cs u) ∧ Frm w.heap.size S w w' := by
  obtain ⟨iE, zE, hiE, hzE, hsE, hbE, hcE⟩ := entInfo_parts
  obtain ⟨hfit, hlen⟩ := rows_fit h s
  have HL := Lib.hid h; clear h
  obtain ⟨xs, hxs⟩ : ∃ xs, rowsOf cs s = xs := ⟨_, rfl⟩
  rw [hxs] at hr hfit hlen ⊢
  obtain ⟨P, hP⟩ : ∃ P, headOf xs = P := ⟨_, rfl⟩
  obtain ⟨y, hy⟩ : ∃ y : Ent, { x with no := (xs.length : Int) + 1 } = y := ⟨_, rfl⟩
  obtain ⟨D, hD⟩ : ∃ D, Ent.next P y = D := ⟨_, rfl⟩
  have hr2 : { y with sum := D } = r := by rw [← hr, ← hD, ← hP, ← hy]; rfl
  have hyf : y.Fit := by rw [← hy]; exact ⟨⟨⟨by show _ ≤ (xs.length : Int) + 1; omega, by show (xs.length : Int) + 1 ≤ _; omega⟩, hx.ok.clock, hx.ok.kind, hx.ok.code, hx.ok.id, hx.ok.stream, hx.ok.subject, hx.ok.sum⟩, hx.str, hx.sub⟩
  have hyc : x.cells.set 0 (.int .i64 ((xs.length : Int) + 1)) = y.cells := by rw [← hy]; rfl
  have hPl : P.length = 32 := by rw [← hP]; exact headOf_length xs (fun z hz => (hfit z hz).ok)
  have hDl : D.length = 32 := by rw [← hD]; exact Ent.next_length _ _
  have hrf : r.Fit := by rw [← hr]; exact rowOf_fit hx (by omega)
  have hrl : r.cells.length = 39 := Ent.cells_length hrf.ok.sum
  have HXS := Lib.hid hxs; clear hxs
  have HP := Lib.hid hP; clear hP
  have HD := Lib.hid hD; clear hD
  have HYC := Lib.hid hyc; clear hyc
  have HPL := Lib.hid hPl; clear hPl
  have HYF := Lib.hid hyf; clear hyf
  have HIE := Lib.hid hiE; clear hiE
  have HZE := Lib.hid hzE; clear hzE
  have HCE := Lib.hid hcE; clear hcE
  have HXF := Lib.hid hx
  have HRF := Lib.hid hrf
  have HID := Lib.hid (show (Tryd.prog.info? 26).map (·.size) = some (bvs D).length by rw [bvs_length, hDl]; exact sizeSum)
  have HFD := Lib.hid (show 7 + (bvs D).length ≤ y.cells.toArray.size by rw [List.size_toArray, Ent.cells_length HYF.out.ok.sum, bvs_length, hDl]; omega)
  have HDO := Lib.hid (bvs_oneCell D)
  have HSP := Lib.hid (show splice y.cells 7 (bvs D) = r.cells by rw [ent_set_sum y D HYF.out.ok.sum hDl, hr2])
  have HIR := Lib.hid (show (Tryd.prog.info? 73).map (·.size) = some r.cells.length by rw [hrl]; exact entSize)
  have HFR := Lib.hid (show 0 + r.cells.length ≤ zEnt.cells.toArray.size by rw [hrl]; exact Nat.le_refl _)
  have HRO := Lib.hid r.cells_oneCell
  have HRL := Lib.hid hrl
  have hu73 : Tryd.prog.underlying 73 = some _ := Tryd.underlying73
  have hiY : (Tryd.prog.info? 73).map (·.size) = some y.cells.length := by rw [Ent.cells_length HYF.out.ok.sum]; exact entSize
  have HG0 := Lib.hid (heap_alloc_new w (.cells x.cells.toArray 73))
  clear hr hr2 hy hDl hrl hfit hx hrf
  go_enter Tryd.func60, Tryd.ntmps60
  (repeat' ((fail_if_success at_builtin); first | (((with_reducible refine wpList_alloc_fresh (w := w.alloc (.cells x.cells.toArray 73)) rfl 73 rfl _ iE zE HIE.out HZE.out HCE.out ?_); intro w1 hg1 hB1 hs1; have HG1 := Lib.hid hg1; clear hg1; have HS1 := Lib.hid hs1; clear hs1)) | go_values | go_skip | go_guarded | go_step | go_upon))
  have hsa : (w.alloc (.cells x.cells.toArray 73)).heap.size = w.heap.size + 1 := by simp
  have hs1 := HS1.out
  have hg1 := HG1.out
  rw [hsa] at hs1 hg1
  have hB01 : Below w.heap.size w w1 := (show Below w.heap.size w (w.alloc (.cells x.cells.toArray 73)) from (Below.refl _ _).alloc (Nat.le_refl _) _).trans (hB1.mono (by omega))
  have hg0 := (hB1.block w.heap.size (by omega)).trans HG0.out
  refine (refCount21 S g cnt cs s w1 (HL.out.below hB01) hc).mono ?_
  rintro _ w1' ⟨rfl, rfl⟩
  dsimp only
  rw [HXS.out]
  have c0 : w1.cell? ⟨w.heap.size, 0, none⟩ = some (.int .i64 x.no) := cell_of_row w1 w.heap.size 0 _ _ _ hg0
  have f0 := frozen_of_row w1 w.heap.size 0 _ _ hg0
  have HG2 := Lib.hid hg0
  have HZ1 := Lib.hid hg1
  clear hg0 hg1 HG0 HG1 HS1 hsa hB1
  (repeat' ((fail_if_success at_builtin); first | go_values | go_skip | go_guarded | go_step | go_upon))
  obtain ⟨w2, hw2⟩ : ∃ w2, w1.setCell ⟨w.heap.size, 0, none⟩ (.int .i64 ((xs.length : Int) + 1)) = w2 := ⟨_, rfl⟩
  have hB2 : Below w.heap.size w w2 := by rw [← hw2]; exact hB01.setCell (Nat.le_refl _) _
  have hs2 : w2.heap.size = w.heap.size + 2 := by rw [← hw2]; simp [World.setCell]; omega
  have hg2 : w2.heap[w.heap.size]? = some (.cells y.cells.toArray 73 (0, 0)) := by
    rw [← hw2, row_set HG2.out, List.setIfInBounds_toArray, HYC.out]
  have hg3 : w2.heap[w.heap.size + 1]? = some (.cells zEnt.cells.toArray 73 (0, 0)) := by
    rw [← hw2]
    exact (Below.heap_setCell _ _ _ _ (by show w.heap.size + 1 ≠ w.heap.size; omega)).trans HZ1.out
  rw [hw2]
  have HQ2 := Lib.hid hg2
  have HQ3 := Lib.hid hg3; clear hg3
  have HS2 := Lib.hid hs2; clear hs2
  have hr2d : w2.drew.rangeAt w.heap.size 0 y.cells := rangeAt_whole (w := w2.drew) hg2
  have hB2d : Below w.heap.size w w2.drew := hB2.drew
  clear c0 f0 HG2 HZ1 hw2 hg2 hB01 hs1
  go_cut [] (fun wx => MadeR w r wx)
  case first =>
    refine wp_region_noPanic ?_
    refine wp_region_held_drew (S := RowF w2 w.heap.size) (by kernel_rfl) ?_ (fun hHeld => ?_)
    · exact rowF (Below.refl _ _).drew
    refine wpAnyH_take (i := 0) (oi := _) (v := ?_) rfl (by kernel_rfl) (by kernel_rfl) (by kernel_rfl) (fun _ _ _ h => h) (Or.inl ⟨by rfl, ?_⟩) (by assumption) ?_
    rotate_left 1
    · (intro w hSw; (try dsimp only at hSw); go_simp; all_goals (with_reducible rfl))
    try simp only [Act.put, List.getElem_toArray, List.getElem_cons_zero, List.getElem_cons_succ, List.setIfInBounds_toArray, List.set_cons_zero, List.set_cons_succ]
    refine wpAnyH_take (i := 1) (oi := _) (v := ?_) rfl (by kernel_rfl) (by kernel_rfl) (by kernel_rfl) (fun _ _ _ h => h) (Or.inl ⟨by rfl, ?_⟩) (by assumption) ?_
    rotate_left 1
    · (intro w hSw; (try dsimp only at hSw); go_simp; all_goals (with_reducible rfl))
    try simp only [Act.put, List.getElem_toArray, List.getElem_cons_zero, List.getElem_cons_succ, List.setIfInBounds_toArray, List.set_cons_zero, List.set_cons_succ]
    refine wpAnyH_ready (rs := [2, 3]) (by kernel_rfl) (by simp) ?_
    refine AllReadyH.cons (o := _) rfl (fun K hK => ?_) ?_
    rotate_left 1
    · refine AllReadyH.cons (o := _) rfl (fun K hK => ?_) ?_
      rotate_left 1
      · exact AllReadyH.nil
      refine step_load_mid rfl 73 _ rfl w.heap.size 0 rfl y.cells _ hr2d hu73 rfl hiY ?_
      refine hK.out _ _ ?_ (fun hHeld => ?_)
      · (exact rowF (Below.refl _ _).drew)
      clear hK K
      try simp only [Act.put, List.setIfInBounds_toArray, List.set_cons_zero, List.set_cons_succ]
      refine wpAnyH_ready (rs := [2]) (by kernel_rfl) (by simp) ?_
      refine AllReadyH.cons (o := _) rfl (fun K hK => ?_) ?_
      rotate_left 1
      · exact AllReadyH.nil
      go_simp
      go_at_call 66
      refine (refHead21 S g cnt cs s P _ (HL.out.below hB2d) hc (by rw [HXS.out];exact HP.out)).mono ?_
      rintro _ wA ⟨rfl, hBA⟩
      dsimp only
      have hBc : Below w2.heap.size w2 wA := (Below.refl _ _).drew.trans hBA
      refine hK.out _ _ ?_ (fun hHeld => ?_)
      · (exact rowF hBc)
      clear hK K
      try simp only [Act.put, List.getElem_toArray, List.getElem_cons_zero, List.getElem_cons_succ, List.setIfInBounds_toArray, List.set_cons_zero, List.set_cons_succ]
      clear hBA
      have hB0c := hB2.trans (hBc.mono hB2.size)
      refine wpAnyH_ready (rs := [4]) (by kernel_rfl) (by simp) ?_
      refine AllReadyH.cons (o := _) rfl (fun K hK => ?_) ?_
      rotate_left 1
      · exact AllReadyH.nil
      go_simp
      go_at_call 62
      refine (refNext21 P D y _ HD.out HPL.out HYF.out).mono ?_
      rintro _ wB ⟨rfl, hBB⟩
      dsimp only
      have hB2B := hBc.trans (hBB.mono hBc.size)
      refine hK.out _ _ ?_ (fun hHeld => ?_)
      · (exact rowF hB2B)
      clear hK K
      try simp only [Act.put, List.getElem_toArray, List.getElem_cons_zero, List.getElem_cons_succ, List.setIfInBounds_toArray, List.set_cons_zero, List.set_cons_succ]
      refine wpAnyH_take (i := 5) (oi := _) (v := ?_) rfl (by kernel_rfl) (by kernel_rfl) (by kernel_rfl) (fun _ _ _ h => h) (Or.inl ⟨by rfl, ?_⟩) (by assumption) ?_
      rotate_left 1
      · (intro w hSw; (try dsimp only at hSw); go_simp; all_goals (with_reducible rfl))
      try simp only [Act.put, List.getElem_toArray, List.getElem_cons_zero, List.getElem_cons_succ, List.setIfInBounds_toArray, List.set_cons_zero, List.set_cons_succ]
      have hg4 := (hB2B.block w.heap.size (by rw [HS2.out]; omega)).trans HQ2.out
      refine wpAnyH_ready (rs := [6]) (by kernel_rfl) (by simp) ?_
      refine AllReadyH.cons (o := _) rfl (fun K hK => ?_) ?_
      rotate_left 1
      · exact AllReadyH.nil
      refine step_store_blk rfl _ _ _ rfl w.heap.size 7 (bvs D) rfl rfl _ _ hg4 HFD.out HID.out HDO.out ?_
      intro w5 hg5 hG5
      rw [List.toList_toArray, HSP.out] at hg5
      refine hK.out _ _ ?_ (fun hHeld => ?_)
      · (exact rowG hB2B hG5)
      clear hK K
      try simp only [Act.put, List.getElem_toArray, List.getElem_cons_zero, List.getElem_cons_succ, List.setIfInBounds_toArray, List.set_cons_zero, List.set_cons_succ]
      refine wpAnyH_done (by kernel_rfl) ?_ _
      refine NoPanic.normal ?_
      have hB02 := hB2.trans (hB2B.mono hB2.size)
      have hB05 : Below w.heap.size w w5 := hB02.grown hG5 hB02.size (fun k e => by cases e; exact Nat.le_refl _)
      have hg6 := (hG5.block (w.heap.size + 1) (by have := hB2B.size; rw [HS2.out] at this; omega) (by simp)).trans ((hB2B.block (w.heap.size + 1) (by rw [HS2.out]; omega)).trans HQ3.out)
      have HMADE := Lib.hid (MadeR.mk (r := r) hB05 hg5 hg6)
      (repeat' ((fail_if_success at_builtin); first | go_values | go_skip | go_guarded | go_step | go_upon))
      go_meet
      exact HMADE.out
    · go_simp
      go_at_call 66
      refine (refHead21 S g cnt cs s P _ (HL.out.below hB2d) hc (by rw [HXS.out]; exact HP.out)).mono ?_
      rintro _ wA ⟨rfl, hBA⟩
      dsimp only
      have hBc : Below w2.heap.size w2 wA := (Below.refl _ _).drew.trans hBA
      refine hK.out _ _ ?_ (fun hHeld => ?_)
      · (exact rowF hBc)
      clear hK K
      try simp only [Act.put, List.setIfInBounds_toArray, List.set_cons_zero, List.set_cons_succ]
      refine wpAnyH_ready (rs := [3]) (by kernel_rfl) (by simp) ?_
      refine AllReadyH.cons (o := _) rfl (fun K hK => ?_) ?_
      rotate_left 1
      · exact AllReadyH.nil
      refine step_load_mid rfl 73 _ rfl w.heap.size 0 rfl y.cells _ (rangeAt_below hr2d hBA (Nat.le_refl _)) hu73 rfl hiY ?_
      refine hK.out _ _ ?_ (fun hHeld => ?_)
      · (exact rowF hBc)
      clear hK K
      try simp only [Act.put, List.getElem_toArray, List.getElem_cons_zero, List.getElem_cons_succ, List.setIfInBounds_toArray, List.set_cons_zero, List.set_cons_succ]
      clear hBA
      have hB0c := hB2.trans (hBc.mono hB2.size)
      refine wpAnyH_ready (rs := [4]) (by kernel_rfl) (by simp) ?_
      refine AllReadyH.cons (o := _) rfl (fun K hK => ?_) ?_
      rotate_left 1
      · exact AllReadyH.nil
      go_simp
      go_at_call 62
      refine (refNext21 P D y _ HD.out HPL.out HYF.out).mono ?_
      rintro _ wB ⟨rfl, hBB⟩
      dsimp only
      have hB2B := hBc.trans (hBB.mono hBc.size)
      refine hK.out _ _ ?_ (fun hHeld => ?_)
      · (exact rowF hB2B)
      clear hK K
      try simp only [Act.put, List.getElem_toArray, List.getElem_cons_zero, List.getElem_cons_succ, List.setIfInBounds_toArray, List.set_cons_zero, List.set_cons_succ]
      refine wpAnyH_take (i := 5) (oi := _) (v := ?_) rfl (by kernel_rfl) (by kernel_rfl) (by kernel_rfl) (fun _ _ _ h => h) (Or.inl ⟨by rfl, ?_⟩) (by assumption) ?_
      rotate_left 1
      · (intro w hSw; (try dsimp only at hSw); go_simp; all_goals (with_reducible rfl))
      try simp only [Act.put, List.getElem_toArray, List.getElem_cons_zero, List.getElem_cons_succ, List.setIfInBounds_toArray, List.set_cons_zero, List.set_cons_succ]
      have hg4 := (hB2B.block w.heap.size (by rw [HS2.out]; omega)).trans HQ2.out
      refine wpAnyH_ready (rs := [6]) (by kernel_rfl) (by simp) ?_
      refine AllReadyH.cons (o := _) rfl (fun K hK => ?_) ?_
      rotate_left 1
      · exact AllReadyH.nil
      refine step_store_blk rfl _ _ _ rfl w.heap.size 7 (bvs D) rfl rfl _ _ hg4 HFD.out HID.out HDO.out ?_
      intro w5 hg5 hG5
      rw [List.toList_toArray, HSP.out] at hg5
      refine hK.out _ _ ?_ (fun hHeld => ?_)
      · (exact rowG hB2B hG5)
      clear hK K
      try simp only [Act.put, List.getElem_toArray, List.getElem_cons_zero, List.getElem_cons_succ, List.setIfInBounds_toArray, List.set_cons_zero, List.set_cons_succ]
      refine wpAnyH_done (by kernel_rfl) ?_ _
      refine NoPanic.normal ?_
      have hB02 := hB2.trans (hB2B.mono hB2.size)
      have hB05 : Below w.heap.size w w5 := hB02.grown hG5 hB02.size (fun k e => by cases e; exact Nat.le_refl _)
      have hg6 := (hG5.block (w.heap.size + 1) (by have := hB2B.size; rw [HS2.out] at this; omega) (by simp)).trans ((hB2B.block (w.heap.size + 1) (by rw [HS2.out]; omega)).trans HQ3.out)
      have HMADE := Lib.hid (MadeR.mk (r := r) hB05 hg5 hg6)
      (repeat' ((fail_if_success at_builtin); first | go_values | go_skip | go_guarded | go_step | go_upon))
      go_meet
      exact HMADE.out
  case rest =>
    obtain ⟨hBc, hbox, hres⟩ := hcut
    have HBOX := Lib.hid hbox; clear hbox
    have HRES := Lib.hid hres; clear hres
    clear HQ2 HQ3 HS2 hr2d hB2d hB2 HSP HFD HID HDO HYC HYF HD HP HPL hiY
    obtain ⟨a, c, hg, hc1, hc2, hSL, hO, hat⟩ := (HL.out.below hBc).at_
    have hbcs := hBc.size
    have hm := HL.out.many
    have hglt := HL.out.low g HL.out.foot
    have c0 : wc.cell? ⟨g, 0, none⟩ = some (.slice a cs.length c) := cell_of_row wc g 0 _ _ _ hg
    have HPUTA := Lib.hid (fun i hi b (w0 w1 : World) => (HL.out.below hBc).putAt (w0 := w0) (w1 := w1) i hi r HRF.out (b := b) (a := a) (c := c) (hg := hg) (hL := hO) (hSL := hSL))
    have HAT := Lib.hid hat
    have HCHS := Lib.hid (HL.out.below hBc).chains
    have HG := Lib.hid hg
    have HO := Lib.hid hO
    have HSL := Lib.hid hSL
    have hS0 : AddR g w.heap.size (.slice a cs.length c) r wc.drew := addr_below (w := wc) ⟨c0, rangeAt_whole HBOX.out⟩ (Below.refl _ _).drew
    clear hg hSL hO hat
    (repeat' ((fail_if_success at_builtin); first | go_values | go_skip | go_guarded | go_step | go_upon))
    go_loopw [7] (fun i wr => ∃ k : Nat, k ≤ cs.length ∧ i = .int .i64 k ∧ wr = wc ∧ ∀ j (hj : j < cs.length), j < k → cs[j].t ≠ s) (fun i _ => cs.length - (intOf i).toNat)
    case atStart => exact ⟨0, by omega, rfl, rfl, fun j hj h => by omega⟩
    case round =>
      obtain ⟨k, hk, rfl, hwr, hno⟩ := hrel
      subst hwr
      have HNO := Lib.hid hno; clear hno
      by_cases hlt : k < cs.length
      · obtain ⟨b, hba, q0, q1⟩ := HAT.out k hlt
        obtain ⟨hch, hchS⟩ := HCHS.out cs[k] (List.getElem_mem hlt)
        have HHIT := Lib.hid (rowsOf_hit cs s k hlt)
        have HRP := Lib.hid (fun v l h1 => rowsOf_rput cs k hlt s v l h1 (fun j hj => HNO.out j (by omega) hj))
        have HNX := Lib.hid (show cs[k].t ≠ s → ∀ j (hj : j < cs.length), j < k + 1 → cs[j].t ≠ s from fun hne j hj h2 => by
          by_cases e : j = k
          · subst e; exact hne
          · exact HNO.out j hj (by omega))
        have HPUT0 := Lib.hid (HPUTA.out k hlt b)
        have hll := HL.out.len cs[k] (List.getElem_mem hlt)
        obtain ⟨x, hxe⟩ : ∃ x, cs[k] = x := ⟨_, rfl⟩
        rw [hxe] at q0 q1 hch hchS HHIT HNX HPUT0 hll HRP
        clear hxe
        obtain ⟨t, v, l⟩ := x
        dsimp only at q0 q1 hch hchS hll
        obtain ⟨ra, rc, hve, hrc, hrm, _⟩ := owns_slice hch
        subst hve
        have bk : (0 : Int) ≤ (k : Int) ∧ (k : Int) < (cs.length : Int) := by omega
        have hrow : ∃ cur, wr.heap[b]? = some (.cells cur 129 (0, 0)) := by
          rcases HO.out.2 with ⟨e, _⟩ | ⟨b', cap, cur, e, _, hh, _⟩
          · rw [hba] at e; cases e
          · rw [hba] at e; cases e; exact ⟨cur, hh⟩
        have hbS : S b := HSL.out b (by rw [hba]; rfl)
        have hblt := HL.out.low b hbS
        have hgb : g ≠ b := by obtain ⟨cur, hcur⟩ := hrow; intro e; subst e; rw [HG.out] at hcur; cases hcur
        have hbz : w.heap.size ≠ b := by omega
        have HNG := Lib.hid (own_types hch HG.out (by decide))
        have HNB := Lib.hid (show (Value.slice ra l.length rc).ownBlock ≠ some b by obtain ⟨cur, hcur⟩ := hrow; exact own_types hch hcur (by decide))
        have HNZ := Lib.hid (show (Value.slice ra l.length rc).ownBlock ≠ some w.heap.size from fun e => by have := HL.out.low _ (hchS _ e); omega)
        have HNZ1 := Lib.hid (show (Value.slice ra l.length rc).ownBlock ≠ some (w.heap.size + 1) from fun e => by have := HL.out.low _ (hchS _ e); omega)
        have HROW := Lib.hid hrow
        have HCH := Lib.hid hch
        have hsz2 : w.heap.size + 1 < wr.heap.size := (Array.getElem?_eq_some_iff.1 HRES.out).1
        clear hrow hch hchS
        subst hba
        have HPUT := Lib.hid (fun (w0 w1 : World) (v' : Value) => HPUT0.out w0 w1 v' rfl)
        by_cases hts : t = s
        · have t1 : (t.toList == s.toList) = true := by rw [hts]; simp
          have hls := HHIT.out hts (fun j hj => HNO.out j (by omega) hj)
          rw [HXS.out] at hls
          dsimp only at hls
          have HROWS := Lib.hid (show ∀ (v' : Value) (u : ByteArray), rowsOf (rput cs k t v' (l ++ [r])) u = if u = s then xs ++ [r] else rowsOf cs u from fun v' u => by
            have := HRP.out v' (l ++ [r]) hts u
            rw [← hts, ← hls] at *
            exact this)
          clear hts hls
          (repeat' ((fail_if_success at_builtin); first | go_values | go_skip | go_guarded | go_step | go_upon))
          refine wp_region_noPanic ?_
          refine wp_region_held_drew (S := AddR g w.heap.size (.slice (some ⟨b, 0, none⟩) cs.length c) r) (by kernel_rfl) ?_ (fun hHeld => ?_)
          · exact hS0
          refine wpAnyH_take (i := 0) (oi := _) (v := ?_) rfl (by kernel_rfl) (by kernel_rfl) (by kernel_rfl) (fun _ _ _ h => h) (Or.inl ⟨by rfl, ?_⟩) (by assumption) ?_
          rotate_left 1
          · (intro w hSw; (try dsimp only at hSw); go_simp; all_goals (with_reducible rfl))
          try simp only [Act.put, List.getElem_toArray, List.getElem_cons_zero, List.getElem_cons_succ, List.setIfInBounds_toArray, List.set_cons_zero, List.set_cons_succ]
          refine wpAnyH_take (i := 1) (oi := _) (v := ?_) rfl (by kernel_rfl) (by kernel_rfl) (by kernel_rfl) (fun _ _ _ h => h) (Or.inl ⟨by rfl, ?_⟩) (by assumption) ?_
          rotate_left 1
          · (intro w hSw; (try dsimp only at hSw); go_simp; all_goals (with_reducible rfl))
          try simp only [Act.put, List.getElem_toArray, List.getElem_cons_zero, List.getElem_cons_succ, List.setIfInBounds_toArray, List.set_cons_zero, List.set_cons_succ]
          refine wpAnyH_take (i := 2) (oi := _) (v := ?_) rfl (by kernel_rfl) (by kernel_rfl) (by kernel_rfl) (fun _ _ _ h => h) (Or.inl ⟨by rfl, ?_⟩) (by assumption) ?_
          rotate_left 1
          · (intro w hSw; (try dsimp only at hSw); go_simp; all_goals (with_reducible rfl))
          try simp only [Act.put, List.getElem_toArray, List.getElem_cons_zero, List.getElem_cons_succ, List.setIfInBounds_toArray, List.set_cons_zero, List.set_cons_succ]
          refine wpAnyH_take (i := 3) (oi := _) (v := ?_) rfl (by kernel_rfl) (by kernel_rfl) (by kernel_rfl) (fun _ _ _ h => h) (Or.inl ⟨by rfl, ?_⟩) (by assumption) ?_
          rotate_left 1
          · (intro w hSw; (try dsimp only at hSw); go_simp; all_goals (with_reducible rfl))
          try simp only [Act.put, List.getElem_toArray, List.getElem_cons_zero, List.getElem_cons_succ, List.setIfInBounds_toArray, List.set_cons_zero, List.set_cons_succ]
          refine wpAnyH_take (i := 4) (oi := _) (v := ?_) rfl (by kernel_rfl) (by kernel_rfl) (by kernel_rfl) (fun _ _ _ h => h) (Or.inl ⟨by rfl, ?_⟩) (by assumption) ?_
          rotate_left 1
          · (intro w hSw; (try dsimp only at hSw); go_simp; all_goals (with_reducible rfl))
          try simp only [Act.put, List.getElem_toArray, List.getElem_cons_zero, List.getElem_cons_succ, List.setIfInBounds_toArray, List.set_cons_zero, List.set_cons_succ]
          refine wpAnyH_take (i := 5) (oi := _) (v := ?_) rfl (by kernel_rfl) (by kernel_rfl) (by kernel_rfl) (fun _ _ _ h => h) (Or.inl ⟨by rfl, ?_⟩) (by assumption) ?_
          rotate_left 1
          · (intro w hSw; (try dsimp only at hSw); go_simp; all_goals (with_reducible rfl))
          try simp only [Act.put, List.getElem_toArray, List.getElem_cons_zero, List.getElem_cons_succ, List.setIfInBounds_toArray, List.set_cons_zero, List.set_cons_succ]
          refine wpAnyH_take (i := 6) (oi := _) (v := ?_) rfl (by kernel_rfl) (by kernel_rfl) (by kernel_rfl) (fun _ _ _ h => h) (Or.inl ⟨by rfl, ?_⟩) (by assumption) ?_
          rotate_left 1
          · (intro w hSw; (try dsimp only at hSw); go_simp; all_goals (with_reducible rfl))
          try simp only [Act.put, List.getElem_toArray, List.getElem_cons_zero, List.getElem_cons_succ, List.setIfInBounds_toArray, List.set_cons_zero, List.set_cons_succ]
          refine wpAnyH_take (i := 7) (oi := _) (v := ?_) rfl (by kernel_rfl) (by kernel_rfl) (by kernel_rfl) (fun _ _ _ h => h) (Or.inl ⟨by rfl, ?_⟩) (by assumption) ?_
          rotate_left 1
          · (intro w hSw; (try dsimp only at hSw); go_simp; all_goals (with_reducible rfl))
          try simp only [Act.put, List.getElem_toArray, List.getElem_cons_zero, List.getElem_cons_succ, List.setIfInBounds_toArray, List.set_cons_zero, List.set_cons_succ]
          refine wpAnyH_take (i := 8) (oi := _) (v := ?_) rfl (by kernel_rfl) (by kernel_rfl) (by kernel_rfl) (fun _ _ _ h => h) (Or.inl ⟨by rfl, ?_⟩) (by assumption) ?_
          rotate_left 1
          · (intro w hSw; (try dsimp only at hSw); go_simp; all_goals (with_reducible rfl))
          try simp only [Act.put, List.getElem_toArray, List.getElem_cons_zero, List.getElem_cons_succ, List.setIfInBounds_toArray, List.set_cons_zero, List.set_cons_succ]
          refine wpAnyH_take (i := 9) (oi := _) (v := ?_) rfl (by kernel_rfl) (by kernel_rfl) (by kernel_rfl) (fun _ _ _ h => h) (Or.inl ⟨by rfl, ?_⟩) (by assumption) ?_
          rotate_left 1
          · (intro w hSw; (try dsimp only at hSw); go_simp; all_goals (with_reducible rfl))
          try simp only [Act.put, List.getElem_toArray, List.getElem_cons_zero, List.getElem_cons_succ, List.setIfInBounds_toArray, List.set_cons_zero, List.set_cons_succ]
          refine wpAnyH_take (i := 10) (oi := _) (v := ?_) rfl (by kernel_rfl) (by kernel_rfl) (by kernel_rfl) (fun _ _ _ h => h) (Or.inl ⟨by rfl, ?_⟩) (by assumption) ?_
          rotate_left 1
          · (intro w hSw; (try dsimp only at hSw); go_simp; all_goals (with_reducible rfl))
          try simp only [Act.put, List.getElem_toArray, List.getElem_cons_zero, List.getElem_cons_succ, List.setIfInBounds_toArray, List.set_cons_zero, List.set_cons_succ]
          refine wpAnyH_take (i := 11) (oi := _) (v := ?_) rfl (by kernel_rfl) (by kernel_rfl) (by kernel_rfl) (fun _ _ _ h => h) (Or.inl ⟨by rfl, ?_⟩) (by assumption) ?_
          rotate_left 1
          · (intro w hSw; (try dsimp only at hSw); go_simp; all_goals (with_reducible rfl))
          try simp only [Act.put, List.getElem_toArray, List.getElem_cons_zero, List.getElem_cons_succ, List.setIfInBounds_toArray, List.set_cons_zero, List.set_cons_succ]
          refine' wpAnyH_take (i := 13) (oi := _) (v := _) rfl (by kernel_rfl) (by kernel_rfl) (by kernel_rfl) (fun _ _ _ h => h) (yieldsIf_load_mid (by rfl) _ _ rfl _ _ rfl _ _ ?ls1 ?lu1 ?ld1 ?li1) (by assumption) ?lr1
          case ls1 => (intro w hSw; (try dsimp only at hSw); go_split_ands; assumption)
          case lu1 => assumption
          case ld1 => rfl
          case li1 => first | assumption | (simp only [*]; done)
          try simp only [Act.put, List.getElem_toArray, List.getElem_cons_zero, List.getElem_cons_succ, List.setIfInBounds_toArray, List.set_cons_zero, List.set_cons_succ]
          refine wpAnyH_ready (rs := [12, 14]) (by kernel_rfl) (by simp) ?_
          refine AllReadyH.cons (o := _) rfl (fun K hK => ?_) ?_
          rotate_left 1
          · refine AllReadyH.cons (o := _) rfl (fun K hK => ?_) ?_
            rotate_left 1
            · exact AllReadyH.nil
            refine step_build_one (by kernel_rfl) _ _ _ rfl Tryd.underlying68 r.cells rfl iE zE HIE.out HZE.out (by rw [HRL.out];exact hsE) (by rw [HRL.out];omega) (by rw [HRL.out];omega) ?_
            intro wB hgB hBB hsB
            have hBcB : Below wr.heap.size wr wB := (Below.refl _ _).drew.trans hBB
            have q1B := cell_below hBcB q1 (Nat.le_refl _)
            refine hK.out _ _ ?_ (fun hHeld => ?_)
            · (exact addr_below hS0 hBB)
            clear hK K
            try simp only [Act.put, List.setIfInBounds_toArray, List.set_cons_zero, List.set_cons_succ]
            clear hBB hsB
            refine wpAnyH_ready (rs := [12]) (by kernel_rfl) (by simp) ?_
            refine AllReadyH.cons (o := _) rfl (fun K hK => ?_) ?_
            rotate_left 1
            · exact AllReadyH.nil
            go_simp
            skip
            refine hK.out _ _ ?_ (fun hHeld => ?_)
            · (assumption)
            clear hK K
            try simp only [Act.put, List.getElem_toArray, List.getElem_cons_zero, List.getElem_cons_succ, List.setIfInBounds_toArray, List.set_cons_zero, List.set_cons_succ]
            clear q1B
            have hOB := owns_below HCH.out hBcB (Nat.le_refl _)
            have hSB := hHeld
            refine wpAnyH_ready (rs := [15]) (by kernel_rfl) (by simp) ?_
            refine AllReadyH.cons (o := _) rfl (fun K hK => ?_) ?_
            rotate_left 1
            · exact AllReadyH.nil
            refine step_app3 rfl _ _ _ _ rfl 0 73 iE zE 39 104 Tryd.underlying68 HIE.out HZE.out hsE hbE (by rw [HCE.out];rfl) _ l.length _ rfl hOB _ rfl 1 r.cells (src_of_rdc Tryd.underlying68 (rd_rowC hgB) (by rw [HRL.out]) HRO.out) (by unfold maxLen;omega) (by omega) (Nat.zero_le _) ?_
            intro v2 wC hOC hgC hvC
            refine hK.out _ _ ?_ (fun hHeld => ?_)
            · (exact addr_grown hSB hgC HNG.out HNZ.out)
            clear hK K
            try simp only [Act.put, List.getElem_toArray, List.getElem_cons_zero, List.getElem_cons_succ, List.setIfInBounds_toArray, List.set_cons_zero, List.set_cons_succ]
            have hSC := hHeld
            have q1C := cell_grown hgC (cell_below hBcB q1 (Nat.le_refl _)) HNB.out
            have f1C : wC.frozen? ⟨b, k * 2 + 1, none⟩ = false := by obtain ⟨cur, hcur⟩ := HROW.out; exact frozen_of_row wC b _ cur _ ((hgC.block b (by have := hBcB.size; have := (Array.getElem?_eq_some_iff.1 hcur).1; omega) (fun e => HNB.out e.symm)).trans ((hBcB.block b (Array.getElem?_eq_some_iff.1 hcur).1).trans hcur))
            refine wpAnyH_take (i := 16) (oi := _) (v := ?_) rfl (by kernel_rfl) (by kernel_rfl) (by kernel_rfl) (fun _ _ _ h => h) (Or.inl ⟨by rfl, ?_⟩) (by assumption) ?_
            rotate_left 1
            · (intro w hSw; (try dsimp only at hSw); go_simp; all_goals (with_reducible rfl))
            try simp only [Act.put, List.getElem_toArray, List.getElem_cons_zero, List.getElem_cons_succ, List.setIfInBounds_toArray, List.set_cons_zero, List.set_cons_succ]
            refine wpAnyH_take (i := 17) (oi := _) (v := ?_) rfl (by kernel_rfl) (by kernel_rfl) (by kernel_rfl) (fun _ _ _ h => h) (Or.inl ⟨by rfl, ?_⟩) (by assumption) ?_
            rotate_left 1
            · (intro w hSw; (try dsimp only at hSw); go_simp; all_goals (with_reducible rfl))
            try simp only [Act.put, List.getElem_toArray, List.getElem_cons_zero, List.getElem_cons_succ, List.setIfInBounds_toArray, List.set_cons_zero, List.set_cons_succ]
            obtain ⟨a2, c2, hv2, _, _, _⟩ := owns_slice hOC
            subst hv2
            refine wpAnyH_ready (rs := [18]) (by kernel_rfl) (by simp) ?_
            refine AllReadyH.cons (o := _) rfl (fun K hK => ?_) ?_
            rotate_left 1
            · exact AllReadyH.nil
            go_simp
            skip
            refine hK.out _ _ ?_ (fun hHeld => ?_)
            · (exact addr_set hSC (by intro e;exact hgb e.symm) (by intro e;exact hbz e))
            clear hK K
            try simp only [Act.put, List.getElem_toArray, List.getElem_cons_zero, List.getElem_cons_succ, List.setIfInBounds_toArray, List.set_cons_zero, List.set_cons_succ]
            refine wpAnyH_done (by kernel_rfl) ?_ _
            refine NoPanic.normal ?_
            obtain ⟨hLD, hFD, hszD⟩ := HPUT.out wB wC _ hBcB hOC hgC hvC
            have hwB : wr.heap.size ≤ wB.heap.size := hBcB.size
            have hwC : wB.heap.size ≤ wC.heap.size := hgC.size
            obtain ⟨wD, hwD⟩ : ∃ wD, wC.setCell ⟨b, k * 2 + 1, none⟩ (.slice a2 (l.length + 1) c2) = wD := ⟨_, rfl⟩
            have hzD : wD.heap[w.heap.size + 1]? = some (.cells zEnt.cells.toArray 73 (0, 0)) := by rw [← hwD, Below.heap_setCell _ _ _ _ (by show w.heap.size + 1 ≠ b; omega), hgC.block (w.heap.size + 1) (by omega) (fun e => HNZ1.out e.symm), hBcB.block (w.heap.size + 1) (by omega)]; exact HRES.out
            rw [hwD] at hLD hFD hszD hHeld ⊢
            have HRD := Lib.hid hHeld.2
            have HZD := Lib.hid hzD
            have HLD := Lib.hid hLD
            have HFD2 := Lib.hid hFD
            clear hLD hFD hzD hHeld hSC hSB hgC hOC hOB hvC hgB hBcB q1C f1C hwD
            (repeat' ((fail_if_success at_builtin); first | (first | (with_reducible refine wpList_load_mid rfl 73 _ rfl w.heap.size 0 rfl r.cells _ HRD.out hu73 rfl HIR.out ?_) | ((with_reducible refine wpList_store_blk rfl 73 _ _ rfl (w.heap.size + 1) 0 r.cells rfl rfl _ _ HZD.out HFR.out HIR.out HRO.out ?_); intro w7 hg7 hG7; rw [splice_whole _ _ (by rw [HRL.out];rfl)] at hg7; have HG7 := Lib.hid hg7; clear hg7)) | go_values | go_skip | go_guarded | go_step | go_upon))
            have hR := run_loadVar_mid (P := Tryd.prog) w7 (w.heap.size + 1) 0 73 r.cells _ (rangeAt_whole HG7.out) hu73 rfl HIR.out
            have HR2 := Lib.hid hR; clear hR
            have hFz : Frm wD.heap.size (fun k => k = w.heap.size + 1) wD w7 := (Frm.refl _ _ _).grown hG7 (Nat.le_refl _) (fun k e _ => by cases e; rfl)
            have h7s := hG7.size
            have hlow := HL.out.low
            have hbcs := hBc.size
            refine bodyPost_ret (results_cell rfl _ _ _ ⟨w.heap.size + 1, 0, none⟩ rfl _ HR2.out) rfl ⟨rfl, ⟨_, (HLD.out.frm hFz ?_).mono ?_ ?_ (Nat.le_refl _), fun u => HROWS.out _ u⟩, ?_⟩
            · rintro q (hq | hq) e
              · have := hlow q hq; omega
              · omega
            · rintro q (hq | hq)
              · exact Or.inl hq
              · exact Or.inr ⟨by omega, by omega⟩
            · rintro q (hq | hq)
              · have := hlow q hq; omega
              · omega
            · exact ((Frm.ofBelow hBc).trans (HFD2.out.mono hBc.size (fun _ _ hh => hh))).grown hG7 (Nat.le_trans hBc.size HFD2.out.size) (fun q e hq => by cases e; omega)
          · go_simp
            refine hK.out _ _ ?_ (fun hHeld => ?_)
            · (exact hS0)
            clear hK K
            try simp only [Act.put, List.setIfInBounds_toArray, List.set_cons_zero, List.set_cons_succ]
            refine wpAnyH_ready (rs := [14]) (by kernel_rfl) (by simp) ?_
            refine AllReadyH.cons (o := _) rfl (fun K hK => ?_) ?_
            rotate_left 1
            · exact AllReadyH.nil
            refine step_build_one (by kernel_rfl) _ _ _ rfl Tryd.underlying68 r.cells rfl iE zE HIE.out HZE.out (by rw [HRL.out];exact hsE) (by rw [HRL.out];omega) (by rw [HRL.out];omega) ?_
            intro wB hgB hBB hsB
            have hBcB : Below wr.heap.size wr wB := (Below.refl _ _).drew.trans hBB
            refine hK.out _ _ ?_ (fun hHeld => ?_)
            · (exact addr_below hS0 hBB)
            clear hK K
            try simp only [Act.put, List.getElem_toArray, List.getElem_cons_zero, List.getElem_cons_succ, List.setIfInBounds_toArray, List.set_cons_zero, List.set_cons_succ]
            clear hBB hsB
            have hOB := owns_below HCH.out hBcB (Nat.le_refl _)
            have hSB := hHeld
            refine wpAnyH_ready (rs := [15]) (by kernel_rfl) (by simp) ?_
            refine AllReadyH.cons (o := _) rfl (fun K hK => ?_) ?_
            rotate_left 1
            · exact AllReadyH.nil
            refine step_app3 rfl _ _ _ _ rfl 0 73 iE zE 39 104 Tryd.underlying68 HIE.out HZE.out hsE hbE (by rw [HCE.out];rfl) _ l.length _ rfl hOB _ rfl 1 r.cells (src_of_rdc Tryd.underlying68 (rd_rowC hgB) (by rw [HRL.out]) HRO.out) (by unfold maxLen;omega) (by omega) (Nat.zero_le _) ?_
            intro v2 wC hOC hgC hvC
            refine hK.out _ _ ?_ (fun hHeld => ?_)
            · (exact addr_grown hSB hgC HNG.out HNZ.out)
            clear hK K
            try simp only [Act.put, List.getElem_toArray, List.getElem_cons_zero, List.getElem_cons_succ, List.setIfInBounds_toArray, List.set_cons_zero, List.set_cons_succ]
            have hSC := hHeld
            have q1C := cell_grown hgC (cell_below hBcB q1 (Nat.le_refl _)) HNB.out
            have f1C : wC.frozen? ⟨b, k * 2 + 1, none⟩ = false := by obtain ⟨cur, hcur⟩ := HROW.out; exact frozen_of_row wC b _ cur _ ((hgC.block b (by have := hBcB.size; have := (Array.getElem?_eq_some_iff.1 hcur).1; omega) (fun e => HNB.out e.symm)).trans ((hBcB.block b (Array.getElem?_eq_some_iff.1 hcur).1).trans hcur))
            refine wpAnyH_take (i := 16) (oi := _) (v := ?_) rfl (by kernel_rfl) (by kernel_rfl) (by kernel_rfl) (fun _ _ _ h => h) (Or.inl ⟨by rfl, ?_⟩) (by assumption) ?_
            rotate_left 1
            · (intro w hSw; (try dsimp only at hSw); go_simp; all_goals (with_reducible rfl))
            try simp only [Act.put, List.getElem_toArray, List.getElem_cons_zero, List.getElem_cons_succ, List.setIfInBounds_toArray, List.set_cons_zero, List.set_cons_succ]
            refine wpAnyH_take (i := 17) (oi := _) (v := ?_) rfl (by kernel_rfl) (by kernel_rfl) (by kernel_rfl) (fun _ _ _ h => h) (Or.inl ⟨by rfl, ?_⟩) (by assumption) ?_
            rotate_left 1
            · (intro w hSw; (try dsimp only at hSw); go_simp; all_goals (with_reducible rfl))
            try simp only [Act.put, List.getElem_toArray, List.getElem_cons_zero, List.getElem_cons_succ, List.setIfInBounds_toArray, List.set_cons_zero, List.set_cons_succ]
            obtain ⟨a2, c2, hv2, _, _, _⟩ := owns_slice hOC
            subst hv2
            refine wpAnyH_ready (rs := [18]) (by kernel_rfl) (by simp) ?_
            refine AllReadyH.cons (o := _) rfl (fun K hK => ?_) ?_
            rotate_left 1
            · exact AllReadyH.nil
            go_simp
            skip
            refine hK.out _ _ ?_ (fun hHeld => ?_)
            · (exact addr_set hSC (by intro e;exact hgb e.symm) (by intro e;exact hbz e))
            clear hK K
            try simp only [Act.put, List.getElem_toArray, List.getElem_cons_zero, List.getElem_cons_succ, List.setIfInBounds_toArray, List.set_cons_zero, List.set_cons_succ]
            refine wpAnyH_done (by kernel_rfl) ?_ _
            refine NoPanic.normal ?_
            obtain ⟨hLD, hFD, hszD⟩ := HPUT.out wB wC _ hBcB hOC hgC hvC
            have hwB : wr.heap.size ≤ wB.heap.size := hBcB.size
            have hwC : wB.heap.size ≤ wC.heap.size := hgC.size
            obtain ⟨wD, hwD⟩ : ∃ wD, wC.setCell ⟨b, k * 2 + 1, none⟩ (.slice a2 (l.length + 1) c2) = wD := ⟨_, rfl⟩
            have hzD : wD.heap[w.heap.size + 1]? = some (.cells zEnt.cells.toArray 73 (0, 0)) := by rw [← hwD, Below.heap_setCell _ _ _ _ (by show w.heap.size + 1 ≠ b; omega), hgC.block (w.heap.size + 1) (by omega) (fun e => HNZ1.out e.symm), hBcB.block (w.heap.size + 1) (by omega)]; exact HRES.out
            rw [hwD] at hLD hFD hszD hHeld ⊢
            have HRD := Lib.hid hHeld.2
            have HZD := Lib.hid hzD
            have HLD := Lib.hid hLD
            have HFD2 := Lib.hid hFD
            clear hLD hFD hzD hHeld hSC hSB hgC hOC hOB hvC hgB hBcB q1C f1C hwD
            (repeat' ((fail_if_success at_builtin); first | (first | (with_reducible refine wpList_load_mid rfl 73 _ rfl w.heap.size 0 rfl r.cells _ HRD.out hu73 rfl HIR.out ?_) | ((with_reducible refine wpList_store_blk rfl 73 _ _ rfl (w.heap.size + 1) 0 r.cells rfl rfl _ _ HZD.out HFR.out HIR.out HRO.out ?_); intro w7 hg7 hG7; rw [splice_whole _ _ (by rw [HRL.out];rfl)] at hg7; have HG7 := Lib.hid hg7; clear hg7)) | go_values | go_skip | go_guarded | go_step | go_upon))
            have hR := run_loadVar_mid (P := Tryd.prog) w7 (w.heap.size + 1) 0 73 r.cells _ (rangeAt_whole HG7.out) hu73 rfl HIR.out
            have HR2 := Lib.hid hR; clear hR
            have hFz : Frm wD.heap.size (fun k => k = w.heap.size + 1) wD w7 := (Frm.refl _ _ _).grown hG7 (Nat.le_refl _) (fun k e _ => by cases e; rfl)
            have h7s := hG7.size
            have hlow := HL.out.low
            have hbcs := hBc.size
            refine bodyPost_ret (results_cell rfl _ _ _ ⟨w.heap.size + 1, 0, none⟩ rfl _ HR2.out) rfl ⟨rfl, ⟨_, (HLD.out.frm hFz ?_).mono ?_ ?_ (Nat.le_refl _), fun u => HROWS.out _ u⟩, ?_⟩
            · rintro q (hq | hq) e
              · have := hlow q hq; omega
              · omega
            · rintro q (hq | hq)
              · exact Or.inl hq
              · exact Or.inr ⟨by omega, by omega⟩
            · rintro q (hq | hq)
              · have := hlow q hq; omega
              · omega
            · exact ((Frm.ofBelow hBc).trans (HFD2.out.mono hBc.size (fun _ _ hh => hh))).grown hG7 (Nat.le_trans hBc.size HFD2.out.size) (fun q e hq => by cases e; omega)
        · have t1 : (t.toList == s.toList) = false := by
            rw [ByteArray.toList_eq, ByteArray.toList_eq]
            simp only [beq_eq_false_iff_ne, ne_eq]
            exact fun h2 => hts (by cases t; cases s; simp at h2; simp [h2])
          have HTS := Lib.hid hts; clear hts
          (repeat' ((fail_if_success at_builtin); first | go_values | go_skip | go_guarded | go_step | go_upon))
          go_roundw
          case rel => exact ⟨k + 1, by omega, by go_num, by trivial, HNX.out HTS.out⟩
          case measure => simp [intOf]; omega
      · have HMISS := Lib.hid (rowsOf_miss cs s (fun j hj => HNO.out j hj (by omega)))
        have hxe : xs = [] := by rw [← HXS.out]; exact HMISS.out
        have HROWS := Lib.hid (show ∀ (v' : Value) (u : ByteArray), rowsOf (cs ++ [⟨s, v', [r]⟩]) u = if u = s then xs ++ [r] else rowsOf cs u from fun v' u => by
          rw [hxe]
          exact rowsOf_push cs s v' [r] (fun j hj => HNO.out j hj (by omega)) u)
        have hsz2 : w.heap.size + 1 < wr.heap.size := (Array.getElem?_eq_some_iff.1 HRES.out).1
        have HLG := Lib.hid (own_types HO.out HG.out (by decide))
        have HLZ := Lib.hid (show (Value.slice a cs.length c).ownBlock ≠ some w.heap.size from fun e => by have := HL.out.low _ (HSL.out _ e); omega)
        have HLZ1 := Lib.hid (show (Value.slice a cs.length c).ownBlock ≠ some (w.heap.size + 1) from fun e => by have := HL.out.low _ (HSL.out _ e); omega)
        have HPUSH := Lib.hid (fun (w0 w1 : World) (v1 v2 : Value) => fun h1 h2 h3 h4 h5 h6 z h7 h8 => (HL.out.below hBc).push s r HRF.out v1 v2 (.slice a cs.length c) HG.out HSL.out HLG.out (w0 := w0) (w1 := w1) h1 h2 h3 h4 h5 h6 (fun y n ys hy q hq e => by
          rcases HO.out.2 with ⟨e2, _⟩ | ⟨b', cap, cur, e2, _, hh, _⟩
          · rw [e2] at e; cases e
          · rw [e2] at e; cases e
            exact own_types hy hh (by decide) hq) z h7 h8)
        obtain ⟨iC, zC, hiC, hzC, hsC, hbC, hcC⟩ := rchInfo_parts
        have HIC := Lib.hid hiC; clear hiC
        have HZC := Lib.hid hzC; clear hzC
        have HCC := Lib.hid hcC; clear hcC
        have hZ0 : wr.drew.rangeAt w.heap.size 0 r.cells := hS0.2
        have hbld : ∀ (w : World) (v : Value), (Instr.build 129 #[(0, .string s), (1, .slice (some ⟨wr.drew.heap.size, 0, none⟩) 1 1)]).run Tryd.prog w = .ok (.agg #[.string s, .slice (some ⟨wr.drew.heap.size, 0, none⟩) 1 1]) w := fun w v => by kernel_rfl
        clear hxe
        (repeat' ((fail_if_success at_builtin); first | go_values | go_skip | go_guarded | go_step | go_upon))
        refine wp_region_noPanic ?_
        refine wp_region_held_drew (S := AddZ w.heap.size r) (by kernel_rfl) ?_ (fun hHeld => ?_)
        · exact hZ0
        refine wpAnyH_take (i := 0) (oi := _) (v := ?_) rfl (by kernel_rfl) (by kernel_rfl) (by kernel_rfl) (fun _ _ _ h => h) (Or.inl ⟨by rfl, ?_⟩) (by assumption) ?_
        rotate_left 1
        · (intro w hSw; (try dsimp only at hSw); go_simp; all_goals (with_reducible rfl))
        try simp only [Act.put, List.getElem_toArray, List.getElem_cons_zero, List.getElem_cons_succ, List.setIfInBounds_toArray, List.set_cons_zero, List.set_cons_succ]
        refine wpAnyH_take (i := 1) (oi := _) (v := ?_) rfl (by kernel_rfl) (by kernel_rfl) (by kernel_rfl) (fun _ _ _ h => h) (Or.inl ⟨by rfl, ?_⟩) (by assumption) ?_
        rotate_left 1
        · (intro w hSw; (try dsimp only at hSw); go_simp; all_goals (with_reducible rfl))
        try simp only [Act.put, List.getElem_toArray, List.getElem_cons_zero, List.getElem_cons_succ, List.setIfInBounds_toArray, List.set_cons_zero, List.set_cons_succ]
        refine wpAnyH_take (i := 2) (oi := _) (v := ?_) rfl (by kernel_rfl) (by kernel_rfl) (by kernel_rfl) (fun _ _ _ h => h) (Or.inl ⟨by rfl, ?_⟩) (by assumption) ?_
        rotate_left 1
        · (intro w hSw; (try dsimp only at hSw); go_simp; all_goals (with_reducible rfl))
        try simp only [Act.put, List.getElem_toArray, List.getElem_cons_zero, List.getElem_cons_succ, List.setIfInBounds_toArray, List.set_cons_zero, List.set_cons_succ]
        refine wpAnyH_take (i := 3) (oi := _) (v := ?_) rfl (by kernel_rfl) (by kernel_rfl) (by kernel_rfl) (fun _ _ _ h => h) (Or.inl ⟨by rfl, ?_⟩) (by assumption) ?_
        rotate_left 1
        · (intro w hSw; (try dsimp only at hSw); go_simp; all_goals (with_reducible rfl))
        try simp only [Act.put, List.getElem_toArray, List.getElem_cons_zero, List.getElem_cons_succ, List.setIfInBounds_toArray, List.set_cons_zero, List.set_cons_succ]
        refine wpAnyH_take (i := 5) (oi := _) (v := ?_) rfl (by kernel_rfl) (by kernel_rfl) (by kernel_rfl) (fun _ _ _ h => h) (Or.inl ⟨by rfl, ?_⟩) (by assumption) ?_
        rotate_left 1
        · (intro w hSw; (try dsimp only at hSw); go_simp; all_goals (with_reducible rfl))
        try simp only [Act.put, List.getElem_toArray, List.getElem_cons_zero, List.getElem_cons_succ, List.setIfInBounds_toArray, List.set_cons_zero, List.set_cons_succ]
        refine' wpAnyH_take (i := 6) (oi := _) (v := _) rfl (by kernel_rfl) (by kernel_rfl) (by kernel_rfl) (fun _ _ _ h => h) (yieldsIf_load_mid (by rfl) _ _ rfl _ _ rfl _ _ ?ls2 ?lu2 ?ld2 ?li2) (by assumption) ?lr2
        case ls2 => (intro w hSw; (try dsimp only at hSw); go_split_ands; assumption)
        case lu2 => assumption
        case ld2 => rfl
        case li2 => first | assumption | (simp only [*]; done)
        try simp only [Act.put, List.getElem_toArray, List.getElem_cons_zero, List.getElem_cons_succ, List.setIfInBounds_toArray, List.set_cons_zero, List.set_cons_succ]
        refine wpAnyH_ready (rs := [4, 7]) (by kernel_rfl) (by simp) ?_
        refine AllReadyH.cons (o := _) rfl (fun K hK => ?_) ?_
        rotate_left 1
        · refine AllReadyH.cons (o := _) rfl (fun K hK => ?_) ?_
          rotate_left 1
          · exact AllReadyH.nil
          refine step_build_one (by kernel_rfl) _ _ _ rfl Tryd.underlying68 r.cells rfl iE zE HIE.out HZE.out (by rw [HRL.out];exact hsE) (by rw [HRL.out];omega) (by rw [HRL.out];omega) ?_
          intro wB hgB hBB hsB
          have hBcB : Below wr.heap.size wr wB := (Below.refl _ _).drew.trans hBB
          have q1B := cell_below hBcB c0 (Nat.le_refl _)
          refine hK.out _ _ ?_ (fun hHeld => ?_)
          · (exact addz_below hZ0 hBB)
          clear hK K
          try simp only [Act.put, List.setIfInBounds_toArray, List.set_cons_zero, List.set_cons_succ]
          clear hBB hsB
          refine wpAnyH_take (i := 8) (oi := _) (v := ?_) rfl (by kernel_rfl) (by kernel_rfl) (by kernel_rfl) (fun _ _ _ h => h) (Or.inl ⟨by rfl, ?_⟩) (by assumption) ?_
          rotate_left 1
          · (intro w hSw; (try dsimp only at hSw); go_simp; all_goals (with_reducible rfl))
          try simp only [Act.put, List.getElem_toArray, List.getElem_cons_zero, List.getElem_cons_succ, List.setIfInBounds_toArray, List.set_cons_zero, List.set_cons_succ]
          have hOrow : wB.ownsRow 0 73 39 (.slice (some ⟨wr.drew.heap.size, 0, none⟩) 1 1) 1 r.cells := ownsRow_new hgB HRL.out
          have hSB := hHeld
          refine wpAnyH_ready (rs := [4, 9]) (by kernel_rfl) (by simp) ?_
          refine AllReadyH.cons (o := _) rfl (fun K hK => ?_) ?_
          rotate_left 1
          · refine AllReadyH.cons (o := _) rfl (fun K hK => ?_) ?_
            rotate_left 1
            · exact AllReadyH.nil
            refine step_build_one (by kernel_rfl) _ _ _ rfl Tryd.underlying125 [.string s, .slice (some ⟨wr.drew.heap.size, 0, none⟩) 1 1] rfl iC zC HIC.out HZC.out hsC (by simp) (by simp) ?_
            intro wF hgF hBF hsF
            have q1F := cell_below hBF q1B (Nat.le_refl _)
            refine hK.out _ _ ?_ (fun hHeld => ?_)
            · (exact addz_below hSB hBF)
            clear hK K
            try simp only [Act.put, List.setIfInBounds_toArray, List.set_cons_zero, List.set_cons_succ]
            refine wpAnyH_ready (rs := [4]) (by kernel_rfl) (by simp) ?_
            refine AllReadyH.cons (o := _) rfl (fun K hK => ?_) ?_
            rotate_left 1
            · exact AllReadyH.nil
            go_simp
            skip
            refine hK.out _ _ ?_ (fun hHeld => ?_)
            · (assumption)
            clear hK K
            try simp only [Act.put, List.getElem_toArray, List.getElem_cons_zero, List.getElem_cons_succ, List.setIfInBounds_toArray, List.set_cons_zero, List.set_cons_succ]
            clear q1F q1B
            have hBcF : Below wr.heap.size wr wF := hBcB.trans (hBF.mono hBcB.size)
            have hSF := hHeld
            have hOF := owns_below HO.out hBcF (Nat.le_refl _)
            have hOrow2 := owns_block hOrow (fun q hq => hBF.block q (hOrow.lt q hq).2)
            refine wpAnyH_ready (rs := [10]) (by kernel_rfl) (by simp) ?_
            refine AllReadyH.cons (o := _) rfl (fun K hK => ?_) ?_
            rotate_left 1
            · exact AllReadyH.nil
            refine step_app3 rfl _ _ _ _ rfl 0 129 iC zC 2 40 Tryd.underlying125 HIC.out HZC.out hsC hbC (by rw [HCC.out];rfl) _ cs.length _ rfl hOF _ rfl 1 [.string s, .slice (some ⟨wr.drew.heap.size, 0, none⟩) 1 1] (src_of_rdc Tryd.underlying125 (rd_rowC hgF) rfl (fun u hu => by simp at hu;rcases hu with rfl | rfl <;> rfl)) (by unfold maxLen;omega) (by omega) (Nat.zero_le _) ?_
            intro v2 wC hOC hgC hvC
            refine hK.out _ _ ?_ (fun hHeld => ?_)
            · (exact addz_grown hSF hgC HLZ.out)
            clear hK K
            try simp only [Act.put, List.getElem_toArray, List.getElem_cons_zero, List.getElem_cons_succ, List.setIfInBounds_toArray, List.set_cons_zero, List.set_cons_succ]
            have hSC := hHeld
            have q1C : wC.cell? ⟨g, 0, none⟩ = some (.slice a cs.length c) := cell_grown hgC (cell_below hBcF c0 (Nat.le_refl _)) HLG.out
            have f1C : wC.frozen? ⟨g, 0, none⟩ = false := frozen_of_row wC g 0 _ _ ((hgC.block g (by have := hBcF.size; omega) (fun e => HLG.out e.symm)).trans ((hBcF.block g (by omega)).trans HG.out))
            refine wpAnyH_take (i := 11) (oi := _) (v := ?_) rfl (by kernel_rfl) (by kernel_rfl) (by kernel_rfl) (fun _ _ _ h => h) (Or.inl ⟨by rfl, ?_⟩) (by assumption) ?_
            rotate_left 1
            · (intro w hSw; (try dsimp only at hSw); go_simp; all_goals (with_reducible rfl))
            try simp only [Act.put, List.getElem_toArray, List.getElem_cons_zero, List.getElem_cons_succ, List.setIfInBounds_toArray, List.set_cons_zero, List.set_cons_succ]
            refine wpAnyH_take (i := 12) (oi := _) (v := ?_) rfl (by kernel_rfl) (by kernel_rfl) (by kernel_rfl) (fun _ _ _ h => h) (Or.inl ⟨by rfl, ?_⟩) (by assumption) ?_
            rotate_left 1
            · (intro w hSw; (try dsimp only at hSw); go_simp; all_goals (with_reducible rfl))
            try simp only [Act.put, List.getElem_toArray, List.getElem_cons_zero, List.getElem_cons_succ, List.setIfInBounds_toArray, List.set_cons_zero, List.set_cons_succ]
            obtain ⟨a2, c2, hv2, _, _, _⟩ := owns_slice hOC
            subst hv2
            refine wpAnyH_ready (rs := [13]) (by kernel_rfl) (by simp) ?_
            refine AllReadyH.cons (o := _) rfl (fun K hK => ?_) ?_
            rotate_left 1
            · exact AllReadyH.nil
            go_simp
            skip
            refine hK.out _ _ ?_ (fun hHeld => ?_)
            · (exact addz_set hSC (by intro e;omega))
            clear hK K
            try simp only [Act.put, List.getElem_toArray, List.getElem_cons_zero, List.getElem_cons_succ, List.setIfInBounds_toArray, List.set_cons_zero, List.set_cons_succ]
            refine wpAnyH_done (by kernel_rfl) ?_ _
            refine NoPanic.normal ?_
            obtain ⟨hLD, hFD, hszD⟩ := HPUSH.out wF wC _ _ hBcF hOrow2 (fun q e => by cases e; show wr.heap.size ≤ wr.drew.heap.size; exact Nat.le_refl _) hOC hgC hvC (wr.drew.heap.size) (Nat.le_refl _) (fun q e => by cases e; exact Nat.le_refl _)
            have hwB : wr.heap.size ≤ wF.heap.size := hBcF.size
            have hwC : wF.heap.size ≤ wC.heap.size := hgC.size
            have hdr : wr.drew.heap.size = wr.heap.size := rfl
            obtain ⟨wD, hwD⟩ : ∃ wD, wC.setCell ⟨g, 0, none⟩ (.slice a2 (cs.length + 1) c2) = wD := ⟨_, rfl⟩
            have hzD : wD.heap[w.heap.size + 1]? = some (.cells zEnt.cells.toArray 73 (0, 0)) := by rw [← hwD, Below.heap_setCell _ _ _ _ (by show w.heap.size + 1 ≠ g; omega), hgC.block (w.heap.size + 1) (by omega) (fun e => HLZ1.out e.symm), hBcF.block (w.heap.size + 1) (by omega)]; exact HRES.out
            rw [hwD] at hLD hFD hszD hHeld ⊢
            have HRD := Lib.hid hHeld
            have HZD := Lib.hid hzD
            have HLD := Lib.hid hLD
            have HFD2 := Lib.hid hFD
            clear hLD hFD hzD hHeld hSC hSB hSF hgC hOC hOF hvC hgF hBcF hgB hBcB hOrow hOrow2 q1C f1C hwD hBF hsF
            (repeat' ((fail_if_success at_builtin); first | (first | (with_reducible refine wpList_load_mid rfl 73 _ rfl w.heap.size 0 rfl r.cells _ HRD.out hu73 rfl HIR.out ?_) | ((with_reducible refine wpList_store_blk rfl 73 _ _ rfl (w.heap.size + 1) 0 r.cells rfl rfl _ _ HZD.out HFR.out HIR.out HRO.out ?_); intro w7 hg7 hG7; rw [splice_whole _ _ (by rw [HRL.out];rfl)] at hg7; have HG7 := Lib.hid hg7; clear hg7)) | go_values | go_skip | go_guarded | go_step | go_upon))
            have hR := run_loadVar_mid (P := Tryd.prog) w7 (w.heap.size + 1) 0 73 r.cells _ (rangeAt_whole HG7.out) hu73 rfl HIR.out
            have HR2 := Lib.hid hR; clear hR
            have hFz : Frm wD.heap.size (fun k => k = w.heap.size + 1) wD w7 := (Frm.refl _ _ _).grown hG7 (Nat.le_refl _) (fun k e _ => by cases e; rfl)
            have h7s := hG7.size
            have hlow := HL.out.low
            have hbcs := hBc.size
            refine bodyPost_ret (results_cell rfl _ _ _ ⟨w.heap.size + 1, 0, none⟩ rfl _ HR2.out) rfl ⟨rfl, ⟨_, (HLD.out.frm hFz ?_).mono ?_ ?_ (Nat.le_refl _), fun u => HROWS.out _ u⟩, ?_⟩
            · rintro q (hq | hq) e
              · have := hlow q hq; omega
              · omega
            · rintro q (hq | hq)
              · exact Or.inl hq
              · exact Or.inr ⟨by omega, by omega⟩
            · rintro q (hq | hq)
              · have := hlow q hq; omega
              · omega
            · exact ((Frm.ofBelow hBc).trans (HFD2.out.mono hBc.size (fun _ _ hh => hh))).grown hG7 (Nat.le_trans hBc.size HFD2.out.size) (fun q e hq => by cases e; omega)
          · go_simp
            refine hK.out _ _ ?_ (fun hHeld => ?_)
            · (exact hSB)
            clear hK K
            try simp only [Act.put, List.setIfInBounds_toArray, List.set_cons_zero, List.set_cons_succ]
            refine wpAnyH_ready (rs := [9]) (by kernel_rfl) (by simp) ?_
            refine AllReadyH.cons (o := _) rfl (fun K hK => ?_) ?_
            rotate_left 1
            · exact AllReadyH.nil
            refine step_build_one (by kernel_rfl) _ _ _ rfl Tryd.underlying125 [.string s, .slice (some ⟨wr.drew.heap.size, 0, none⟩) 1 1] rfl iC zC HIC.out HZC.out hsC (by simp) (by simp) ?_
            intro wF hgF hBF hsF
            refine hK.out _ _ ?_ (fun hHeld => ?_)
            · (exact addz_below hSB hBF)
            clear hK K
            try simp only [Act.put, List.getElem_toArray, List.getElem_cons_zero, List.getElem_cons_succ, List.setIfInBounds_toArray, List.set_cons_zero, List.set_cons_succ]
            clear q1B
            have hBcF : Below wr.heap.size wr wF := hBcB.trans (hBF.mono hBcB.size)
            have hSF := hHeld
            have hOF := owns_below HO.out hBcF (Nat.le_refl _)
            have hOrow2 := owns_block hOrow (fun q hq => hBF.block q (hOrow.lt q hq).2)
            refine wpAnyH_ready (rs := [10]) (by kernel_rfl) (by simp) ?_
            refine AllReadyH.cons (o := _) rfl (fun K hK => ?_) ?_
            rotate_left 1
            · exact AllReadyH.nil
            refine step_app3 rfl _ _ _ _ rfl 0 129 iC zC 2 40 Tryd.underlying125 HIC.out HZC.out hsC hbC (by rw [HCC.out];rfl) _ cs.length _ rfl hOF _ rfl 1 [.string s, .slice (some ⟨wr.drew.heap.size, 0, none⟩) 1 1] (src_of_rdc Tryd.underlying125 (rd_rowC hgF) rfl (fun u hu => by simp at hu;rcases hu with rfl | rfl <;> rfl)) (by unfold maxLen;omega) (by omega) (Nat.zero_le _) ?_
            intro v2 wC hOC hgC hvC
            refine hK.out _ _ ?_ (fun hHeld => ?_)
            · (exact addz_grown hSF hgC HLZ.out)
            clear hK K
            try simp only [Act.put, List.getElem_toArray, List.getElem_cons_zero, List.getElem_cons_succ, List.setIfInBounds_toArray, List.set_cons_zero, List.set_cons_succ]
            have hSC := hHeld
            have q1C : wC.cell? ⟨g, 0, none⟩ = some (.slice a cs.length c) := cell_grown hgC (cell_below hBcF c0 (Nat.le_refl _)) HLG.out
            have f1C : wC.frozen? ⟨g, 0, none⟩ = false := frozen_of_row wC g 0 _ _ ((hgC.block g (by have := hBcF.size; omega) (fun e => HLG.out e.symm)).trans ((hBcF.block g (by omega)).trans HG.out))
            refine wpAnyH_take (i := 11) (oi := _) (v := ?_) rfl (by kernel_rfl) (by kernel_rfl) (by kernel_rfl) (fun _ _ _ h => h) (Or.inl ⟨by rfl, ?_⟩) (by assumption) ?_
            rotate_left 1
            · (intro w hSw; (try dsimp only at hSw); go_simp; all_goals (with_reducible rfl))
            try simp only [Act.put, List.getElem_toArray, List.getElem_cons_zero, List.getElem_cons_succ, List.setIfInBounds_toArray, List.set_cons_zero, List.set_cons_succ]
            refine wpAnyH_take (i := 12) (oi := _) (v := ?_) rfl (by kernel_rfl) (by kernel_rfl) (by kernel_rfl) (fun _ _ _ h => h) (Or.inl ⟨by rfl, ?_⟩) (by assumption) ?_
            rotate_left 1
            · (intro w hSw; (try dsimp only at hSw); go_simp; all_goals (with_reducible rfl))
            try simp only [Act.put, List.getElem_toArray, List.getElem_cons_zero, List.getElem_cons_succ, List.setIfInBounds_toArray, List.set_cons_zero, List.set_cons_succ]
            obtain ⟨a2, c2, hv2, _, _, _⟩ := owns_slice hOC
            subst hv2
            refine wpAnyH_ready (rs := [13]) (by kernel_rfl) (by simp) ?_
            refine AllReadyH.cons (o := _) rfl (fun K hK => ?_) ?_
            rotate_left 1
            · exact AllReadyH.nil
            go_simp
            skip
            refine hK.out _ _ ?_ (fun hHeld => ?_)
            · (exact addz_set hSC (by intro e;omega))
            clear hK K
            try simp only [Act.put, List.getElem_toArray, List.getElem_cons_zero, List.getElem_cons_succ, List.setIfInBounds_toArray, List.set_cons_zero, List.set_cons_succ]
            refine wpAnyH_done (by kernel_rfl) ?_ _
            refine NoPanic.normal ?_
            obtain ⟨hLD, hFD, hszD⟩ := HPUSH.out wF wC _ _ hBcF hOrow2 (fun q e => by cases e; show wr.heap.size ≤ wr.drew.heap.size; exact Nat.le_refl _) hOC hgC hvC (wr.drew.heap.size) (Nat.le_refl _) (fun q e => by cases e; exact Nat.le_refl _)
            have hwB : wr.heap.size ≤ wF.heap.size := hBcF.size
            have hwC : wF.heap.size ≤ wC.heap.size := hgC.size
            have hdr : wr.drew.heap.size = wr.heap.size := rfl
            obtain ⟨wD, hwD⟩ : ∃ wD, wC.setCell ⟨g, 0, none⟩ (.slice a2 (cs.length + 1) c2) = wD := ⟨_, rfl⟩
            have hzD : wD.heap[w.heap.size + 1]? = some (.cells zEnt.cells.toArray 73 (0, 0)) := by rw [← hwD, Below.heap_setCell _ _ _ _ (by show w.heap.size + 1 ≠ g; omega), hgC.block (w.heap.size + 1) (by omega) (fun e => HLZ1.out e.symm), hBcF.block (w.heap.size + 1) (by omega)]; exact HRES.out
            rw [hwD] at hLD hFD hszD hHeld ⊢
            have HRD := Lib.hid hHeld
            have HZD := Lib.hid hzD
            have HLD := Lib.hid hLD
            have HFD2 := Lib.hid hFD
            clear hLD hFD hzD hHeld hSC hSB hSF hgC hOC hOF hvC hgF hBcF hgB hBcB hOrow hOrow2 q1C f1C hwD hBF hsF
            (repeat' ((fail_if_success at_builtin); first | (first | (with_reducible refine wpList_load_mid rfl 73 _ rfl w.heap.size 0 rfl r.cells _ HRD.out hu73 rfl HIR.out ?_) | ((with_reducible refine wpList_store_blk rfl 73 _ _ rfl (w.heap.size + 1) 0 r.cells rfl rfl _ _ HZD.out HFR.out HIR.out HRO.out ?_); intro w7 hg7 hG7; rw [splice_whole _ _ (by rw [HRL.out];rfl)] at hg7; have HG7 := Lib.hid hg7; clear hg7)) | go_values | go_skip | go_guarded | go_step | go_upon))
            have hR := run_loadVar_mid (P := Tryd.prog) w7 (w.heap.size + 1) 0 73 r.cells _ (rangeAt_whole HG7.out) hu73 rfl HIR.out
            have HR2 := Lib.hid hR; clear hR
            have hFz : Frm wD.heap.size (fun k => k = w.heap.size + 1) wD w7 := (Frm.refl _ _ _).grown hG7 (Nat.le_refl _) (fun k e _ => by cases e; rfl)
            have h7s := hG7.size
            have hlow := HL.out.low
            have hbcs := hBc.size
            refine bodyPost_ret (results_cell rfl _ _ _ ⟨w.heap.size + 1, 0, none⟩ rfl _ HR2.out) rfl ⟨rfl, ⟨_, (HLD.out.frm hFz ?_).mono ?_ ?_ (Nat.le_refl _), fun u => HROWS.out _ u⟩, ?_⟩
            · rintro q (hq | hq) e
              · have := hlow q hq; omega
              · omega
            · rintro q (hq | hq)
              · exact Or.inl hq
              · exact Or.inr ⟨by omega, by omega⟩
            · rintro q (hq | hq)
              · have := hlow q hq; omega
              · omega
            · exact ((Frm.ofBelow hBc).trans (HFD2.out.mono hBc.size (fun _ _ hh => hh))).grown hG7 (Nat.le_trans hBc.size HFD2.out.size) (fun q e hq => by cases e; omega)
        · go_simp
          refine hK.out _ _ ?_ (fun hHeld => ?_)
          · (exact hZ0)
          clear hK K
          try simp only [Act.put, List.setIfInBounds_toArray, List.set_cons_zero, List.set_cons_succ]
          refine wpAnyH_ready (rs := [7]) (by kernel_rfl) (by simp) ?_
          refine AllReadyH.cons (o := _) rfl (fun K hK => ?_) ?_
          rotate_left 1
          · exact AllReadyH.nil
          refine step_build_one (by kernel_rfl) _ _ _ rfl Tryd.underlying68 r.cells rfl iE zE HIE.out HZE.out (by rw [HRL.out];exact hsE) (by rw [HRL.out];omega) (by rw [HRL.out];omega) ?_
          intro wB hgB hBB hsB
          have hBcB : Below wr.heap.size wr wB := (Below.refl _ _).drew.trans hBB
          refine hK.out _ _ ?_ (fun hHeld => ?_)
          · (exact addz_below hZ0 hBB)
          clear hK K
          try simp only [Act.put, List.getElem_toArray, List.getElem_cons_zero, List.getElem_cons_succ, List.setIfInBounds_toArray, List.set_cons_zero, List.set_cons_succ]
          clear hBB hsB
          refine wpAnyH_take (i := 8) (oi := _) (v := ?_) rfl (by kernel_rfl) (by kernel_rfl) (by kernel_rfl) (fun _ _ _ h => h) (Or.inl ⟨by rfl, ?_⟩) (by assumption) ?_
          rotate_left 1
          · (intro w hSw; (try dsimp only at hSw); go_simp; all_goals (with_reducible rfl))
          try simp only [Act.put, List.getElem_toArray, List.getElem_cons_zero, List.getElem_cons_succ, List.setIfInBounds_toArray, List.set_cons_zero, List.set_cons_succ]
          have hOrow : wB.ownsRow 0 73 39 (.slice (some ⟨wr.drew.heap.size, 0, none⟩) 1 1) 1 r.cells := ownsRow_new hgB HRL.out
          have hSB := hHeld
          refine wpAnyH_ready (rs := [9]) (by kernel_rfl) (by simp) ?_
          refine AllReadyH.cons (o := _) rfl (fun K hK => ?_) ?_
          rotate_left 1
          · exact AllReadyH.nil
          refine step_build_one (by kernel_rfl) _ _ _ rfl Tryd.underlying125 [.string s, .slice (some ⟨wr.drew.heap.size, 0, none⟩) 1 1] rfl iC zC HIC.out HZC.out hsC (by simp) (by simp) ?_
          intro wF hgF hBF hsF
          refine hK.out _ _ ?_ (fun hHeld => ?_)
          · (exact addz_below hSB hBF)
          clear hK K
          try simp only [Act.put, List.getElem_toArray, List.getElem_cons_zero, List.getElem_cons_succ, List.setIfInBounds_toArray, List.set_cons_zero, List.set_cons_succ]
          have hBcF : Below wr.heap.size wr wF := hBcB.trans (hBF.mono hBcB.size)
          have hSF := hHeld
          have hOF := owns_below HO.out hBcF (Nat.le_refl _)
          have hOrow2 := owns_block hOrow (fun q hq => hBF.block q (hOrow.lt q hq).2)
          refine wpAnyH_ready (rs := [10]) (by kernel_rfl) (by simp) ?_
          refine AllReadyH.cons (o := _) rfl (fun K hK => ?_) ?_
          rotate_left 1
          · exact AllReadyH.nil
          refine step_app3 rfl _ _ _ _ rfl 0 129 iC zC 2 40 Tryd.underlying125 HIC.out HZC.out hsC hbC (by rw [HCC.out];rfl) _ cs.length _ rfl hOF _ rfl 1 [.string s, .slice (some ⟨wr.drew.heap.size, 0, none⟩) 1 1] (src_of_rdc Tryd.underlying125 (rd_rowC hgF) rfl (fun u hu => by simp at hu;rcases hu with rfl | rfl <;> rfl)) (by unfold maxLen;omega) (by omega) (Nat.zero_le _) ?_
          intro v2 wC hOC hgC hvC
          refine hK.out _ _ ?_ (fun hHeld => ?_)
          · (exact addz_grown hSF hgC HLZ.out)
          clear hK K
          try simp only [Act.put, List.getElem_toArray, List.getElem_cons_zero, List.getElem_cons_succ, List.setIfInBounds_toArray, List.set_cons_zero, List.set_cons_succ]
          have hSC := hHeld
          have q1C : wC.cell? ⟨g, 0, none⟩ = some (.slice a cs.length c) := cell_grown hgC (cell_below hBcF c0 (Nat.le_refl _)) HLG.out
          have f1C : wC.frozen? ⟨g, 0, none⟩ = false := frozen_of_row wC g 0 _ _ ((hgC.block g (by have := hBcF.size; omega) (fun e => HLG.out e.symm)).trans ((hBcF.block g (by omega)).trans HG.out))
          refine wpAnyH_take (i := 11) (oi := _) (v := ?_) rfl (by kernel_rfl) (by kernel_rfl) (by kernel_rfl) (fun _ _ _ h => h) (Or.inl ⟨by rfl, ?_⟩) (by assumption) ?_
          rotate_left 1
          · (intro w hSw; (try dsimp only at hSw); go_simp; all_goals (with_reducible rfl))
          try simp only [Act.put, List.getElem_toArray, List.getElem_cons_zero, List.getElem_cons_succ, List.setIfInBounds_toArray, List.set_cons_zero, List.set_cons_succ]
          refine wpAnyH_take (i := 12) (oi := _) (v := ?_) rfl (by kernel_rfl) (by kernel_rfl) (by kernel_rfl) (fun _ _ _ h => h) (Or.inl ⟨by rfl, ?_⟩) (by assumption) ?_
          rotate_left 1
          · (intro w hSw; (try dsimp only at hSw); go_simp; all_goals (with_reducible rfl))
          try simp only [Act.put, List.getElem_toArray, List.getElem_cons_zero, List.getElem_cons_succ, List.setIfInBounds_toArray, List.set_cons_zero, List.set_cons_succ]
          obtain ⟨a2, c2, hv2, _, _, _⟩ := owns_slice hOC
          subst hv2
          refine wpAnyH_ready (rs := [13]) (by kernel_rfl) (by simp) ?_
          refine AllReadyH.cons (o := _) rfl (fun K hK => ?_) ?_
          rotate_left 1
          · exact AllReadyH.nil
          go_simp
          skip
          refine hK.out _ _ ?_ (fun hHeld => ?_)
          · (exact addz_set hSC (by intro e;omega))
          clear hK K
          try simp only [Act.put, List.getElem_toArray, List.getElem_cons_zero, List.getElem_cons_succ, List.setIfInBounds_toArray, List.set_cons_zero, List.set_cons_succ]
          refine wpAnyH_done (by kernel_rfl) ?_ _
          refine NoPanic.normal ?_
          obtain ⟨hLD, hFD, hszD⟩ := HPUSH.out wF wC _ _ hBcF hOrow2 (fun q e => by cases e; show wr.heap.size ≤ wr.drew.heap.size; exact Nat.le_refl _) hOC hgC hvC (wr.drew.heap.size) (Nat.le_refl _) (fun q e => by cases e; exact Nat.le_refl _)
          have hwB : wr.heap.size ≤ wF.heap.size := hBcF.size
          have hwC : wF.heap.size ≤ wC.heap.size := hgC.size
          have hdr : wr.drew.heap.size = wr.heap.size := rfl
          obtain ⟨wD, hwD⟩ : ∃ wD, wC.setCell ⟨g, 0, none⟩ (.slice a2 (cs.length + 1) c2) = wD := ⟨_, rfl⟩
          have hzD : wD.heap[w.heap.size + 1]? = some (.cells zEnt.cells.toArray 73 (0, 0)) := by rw [← hwD, Below.heap_setCell _ _ _ _ (by show w.heap.size + 1 ≠ g; omega), hgC.block (w.heap.size + 1) (by omega) (fun e => HLZ1.out e.symm), hBcF.block (w.heap.size + 1) (by omega)]; exact HRES.out
          rw [hwD] at hLD hFD hszD hHeld ⊢
          have HRD := Lib.hid hHeld
          have HZD := Lib.hid hzD
          have HLD := Lib.hid hLD
          have HFD2 := Lib.hid hFD
          clear hLD hFD hzD hHeld hSC hSB hSF hgC hOC hOF hvC hgF hBcF hgB hBcB hOrow hOrow2 q1C f1C hwD hBF hsF
          (repeat' ((fail_if_success at_builtin); first | (first | (with_reducible refine wpList_load_mid rfl 73 _ rfl w.heap.size 0 rfl r.cells _ HRD.out hu73 rfl HIR.out ?_) | ((with_reducible refine wpList_store_blk rfl 73 _ _ rfl (w.heap.size + 1) 0 r.cells rfl rfl _ _ HZD.out HFR.out HIR.out HRO.out ?_); intro w7 hg7 hG7; rw [splice_whole _ _ (by rw [HRL.out];rfl)] at hg7; have HG7 := Lib.hid hg7; clear hg7)) | go_values | go_skip | go_guarded | go_step | go_upon))
          have hR := run_loadVar_mid (P := Tryd.prog) w7 (w.heap.size + 1) 0 73 r.cells _ (rangeAt_whole HG7.out) hu73 rfl HIR.out
          have HR2 := Lib.hid hR; clear hR
          have hFz : Frm wD.heap.size (fun k => k = w.heap.size + 1) wD w7 := (Frm.refl _ _ _).grown hG7 (Nat.le_refl _) (fun k e _ => by cases e; rfl)
          have h7s := hG7.size
          have hlow := HL.out.low
          have hbcs := hBc.size
          refine bodyPost_ret (results_cell rfl _ _ _ ⟨w.heap.size + 1, 0, none⟩ rfl _ HR2.out) rfl ⟨rfl, ⟨_, (HLD.out.frm hFz ?_).mono ?_ ?_ (Nat.le_refl _), fun u => HROWS.out _ u⟩, ?_⟩
          · rintro q (hq | hq) e
            · have := hlow q hq; omega
            · omega
          · rintro q (hq | hq)
            · exact Or.inl hq
            · exact Or.inr ⟨by omega, by omega⟩
          · rintro q (hq | hq)
            · have := hlow q hq; omega
            · omega
          · exact ((Frm.ofBelow hBc).trans (HFD2.out.mono hBc.size (fun _ _ hh => hh))).grown hG7 (Nat.le_trans hBc.size HFD2.out.size) (fun q e hq => by cases e; omega)

end Go.Proofs.YtdpfemhfmofmlaaDoor
