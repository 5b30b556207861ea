/- A row is added to a tenant's chain (audit.Log.Add), walked. -/
import Derived.Test.YtdpfemhfmofmlaaDoorLogB
namespace Go.Proofs.YtdpfemhfmofmlaaDoor
set_option linter.unusedSimpArgs false
set_option linter.unusedVariables false
open Go.RowKit
set_option maxRecDepth 10000
--@PUT2

theorem own_map {P : Program} {k : TypeId} {w : World} {base e size b m : Nat} {v : Value} {n : Nat} {xs : List Value} {f : ByteArray → Option Value} (h : w.ownsRow base e size v n xs) (hm : SMap P k w b m f) : v.ownBlock ≠ some b := by
  obtain ⟨es, clock, hb⟩ := hm.row
  intro e2
  rcases h.2 with ⟨rfl, _⟩ | ⟨g', cap, cur, rfl, _, hh, _⟩
  · cases e2
  · cases e2
    rw [hb] at hh
    cases hh
theorem rd_rowC {w : World} {g : Nat} {cs : List Value} {t : TypeId} {fr : Nat × Nat} (h : w.heap[g]? = some (.cells cs.toArray t fr)) : RdC w (some ⟨g, 0, none⟩) cs :=
  ⟨fun i hi => ⟨g, 0, rfl, by rw [Nat.zero_add, cell_of_row w g i _ _ _ h]; simp⟩⟩
abbrev AddS (g b z : Nat) (r : Ent) (w' : World) : Prop := w'.cell? ⟨g, 0, none⟩ = some (.map (some b)) ∧ w'.rangeAt z 0 r.cells
theorem adds_grown {g b z : Nat} {r : Ent} {w w' : World} {o : Option Nat} (h : AddS g b z r w) (hg : w.grownBy w' o) (h1 : o ≠ some g) (h2 : o ≠ some z) : AddS g b z r w' :=
  ⟨cell_grown hg h.1 h1, fun j v hj => cell_grown hg (h.2 j v hj) h2⟩
theorem adds_below {g b z : Nat} {r : Ent} {w w' : World} (h : AddS g b z r w) (hB : Below w.heap.size w w') : AddS g b z r w' :=
  ⟨cell_below hB h.1 (Nat.le_refl _), rangeAt_below h.2 hB (Nat.le_refl _)⟩
theorem own_types {w : World} {base e size : Nat} {v : Value} {n : Nat} {xs : List Value} {g : Nat} {cs : Array Value} {t : TypeId} {fr : Nat × Nat} (h : w.ownsRow base e size v n xs) (hg : w.heap[g]? = some (.cells cs t fr)) (ht : t ≠ e) : v.ownBlock ≠ some g := by
  intro e2
  rcases h.2 with ⟨rfl, _⟩ | ⟨g', cap, cur, rfl, _, hh, _⟩
  · cases e2
  · cases e2
    rw [hg] at hh
    cases hh
    exact ht rfl

set_option maxHeartbeats 400000 in
theorem auditAdd (S : Nat → Prop) (g cnt : Nat) (f : ByteArray → List Ent) (s : ByteArray) (x r : Ent) (w : World) (h : LogAt w S g cnt f) (hT : Tabs w) (hs : s.size ≤ maxLen) (hc : cnt ≤ 100000) (hx : x.Fit) (hr : rowOf (f s) x = r) :
    Calls Tryd.prog 72 #[.pointer (some ⟨g, 0, none⟩), .string s, .agg x.cells.toArray] w fun e w' => e = .returned (.agg r.cells.toArray) ∧ LogAt w' (fun k => S k ∨ (w.heap.size ≤ k ∧ k < w'.heap.size)) g (cnt + 1) (lput f s (f s ++ [r])) ∧ Frm w.heap.size S w w' := by
  obtain ⟨iE, zE, hiE, hzE, hsE, hbE, hcE⟩ := entInfo_parts
  have hts := hT.size
  have HT := Lib.hid hT; clear hT
  have hrf : r.Fit := by rw [← hr]; exact rowOf_fit hx (by have := h.len s; omega)
  have hrl : r.cells.length = 39 := Ent.cells_length hrf.ok.sum
  obtain ⟨b, n, fm, hg, hm, hn, hSb, h5, h6, h7⟩ := h.out
  have hlen := h.len s
  have hglt := h.low g h.foot
  have hblt := h.low b hSb
  have hzl := fun w' hB => (hm.below (w' := w') hB hblt).lookup Tryd.underlying9 Tryd.underlying135 (z := .slice none 0 0) (by kernel_rfl) s hs
  obtain ⟨v, hv⟩ : ∃ v, (fm s).getD (.slice none 0 0) = v := ⟨_, rfl⟩
  have hvo : w.ownsRow 0 73 39 v (f s).length ((f s).flatMap Ent.cells) := by
    cases hf : fm s with
    | none => rw [hf] at hv; rw [← hv, h5 s hf]; exact World.ownsRow_nil _ _ _ _
    | some u => rw [hf] at hv; rw [← hv]; exact (h6 s u hf).1
  obtain ⟨a, c, hve, hc1, hc2, _⟩ := owns_slice hvo
  have c0 : w.cell? ⟨g, 0, none⟩ = some (.map (some b)) := cell_of_row w g 0 _ _ _ hg
  have HADD := Lib.hid (fun (w0 w1 w2 : World) (v' : Value) => h.added (w0 := w0) (w1 := w1) (w2 := w2) s r v' hrf hg hm hn hSb h5 h6 h7)
  have HOKS := Lib.hid (fun x hx => (h.rows s x hx).ok)
  have HSM := Lib.hid hm
  have HLOW := Lib.hid h.low
  obtain ⟨xs, hxs⟩ : ∃ xs, f s = xs := ⟨_, rfl⟩
  rw [hxs] at hvo hc1 hlen hr HOKS hve
  rw [hxs]
  subst hve
  rw [hxs, hv] at HADD
  rw [hv] at hzl
  have HLK := Lib.hid hzl
  have HVO := Lib.hid hvo
  have HR := Lib.hid hr
  have HIE := Lib.hid hiE
  have HZE := Lib.hid hzE
  have HCE := Lib.hid hcE
  have hxl : x.cells.length = 39 := Ent.cells_length hx.ok.sum
  have hiX := Lib.hid (show (Tryd.prog.info? 73).map (·.size) = some x.cells.length by rw [hxl]; exact entSize)
  have HIR := Lib.hid (show (Tryd.prog.info? 73).map (·.size) = some r.cells.length by rw [hrl]; exact entSize)
  have HFR := Lib.hid (show 0 + r.cells.length ≤ x.cells.toArray.size by rw [hrl, List.size_toArray, hxl]; omega)
  have HFZ := Lib.hid (show 0 + r.cells.length ≤ zEnt.cells.toArray.size by rw [hrl]; exact Nat.le_refl _)
  have HRO := Lib.hid r.cells_oneCell
  have HRL := Lib.hid hrl
  have HXL := Lib.hid hxl
  have hu73 : Tryd.prog.underlying 73 = some _ := Tryd.underlying73
  have hg0 : (w.alloc (.cells x.cells.toArray 73)).heap[w.heap.size]? = some (.cells x.cells.toArray 73 (0, 0)) := heap_alloc_new w _
  have HG0 := Lib.hid hg0
  have HNG := Lib.hid (own_types hvo hg (by decide))
  have HNL := Lib.hid (fun k e => (hvo.lt k e).2)
  have hgb : b ≠ g := hm.ne hg
  have HNB := Lib.hid (own_map hvo hm)
  have hcap : (0 : Int) ≤ (c : Int) := by omega
  have HMN := Lib.hid (show n < maxLen by unfold maxLen; omega)
  clear hg0 hxl hrl hr hvo hzl hxs hm h5 h6 h7 hg hv h hiE hzE hcE
  go_enter Tryd.func72, Tryd.ntmps72
  (repeat' ((fail_if_success at_builtin); first | (first | ((with_reducible refine wpList_alloc_fresh (w := w.alloc (.cells x.cells.toArray 73)) rfl 73 rfl _ iE zE HIE.out HZE.out HCE.out ?_); intro w1 hg1 hB1 hs1; have HG1 := Lib.hid hg1; clear hg1; have HS1 := Lib.hid hs1; clear hs1; have HG2 := Lib.hid ((hB1.block w.heap.size (by simp)).trans HG0.out); have hB01 := (show Below w.heap.size w (w.alloc (.cells x.cells.toArray 73)) from (Below.refl _ _).alloc (Nat.le_refl _) _).trans (hB1.mono (by simp)); have c1 := cell_below hB01 c0 (Nat.le_refl _); have hlk := HLK.out w1 hB01; have HRA := Lib.hid (rangeAt_whole HG2.out); clear hB1) | (with_reducible refine wpList_load_mid rfl 73 _ rfl w.heap.size 0 rfl x.cells _ HRA.out hu73 rfl hiX.out ?_)) | go_values | go_skip | go_guarded | go_step | go_upon))
  refine (chainRow a xs.length c xs x r w1 HR.out (HT.out.below hB01 hts) ((rdc_of_owns HVO.out).below hB01 (Nat.le_refl _)) HOKS.out hx.ok rfl (by omega) hx.str hx.sub).mono ?_
  rintro _ w2 ⟨rfl, hB2⟩
  dsimp only
  have hsa : (w.alloc (.cells x.cells.toArray 73)).heap.size = w.heap.size + 1 := by simp
  have hs1 := HS1.out
  have hz1 := HG1.out
  rw [hsa] at hs1 hz1
  have HG3 := Lib.hid ((hB2.block w.heap.size (by omega)).trans HG2.out)
  have HZ3 := Lib.hid ((hB2.block (w.heap.size + 1) (by omega)).trans hz1)
  have hB02 : Below w.heap.size w w2 := hB01.trans (hB2.mono hB01.size)
  have hs2 : w.heap.size + 2 ≤ w2.heap.size := by have := hB2.size; omega
  clear hlk c1 HRA HG1 HG2 HS1 hsa hs1 hz1
  (repeat' ((fail_if_success at_builtin); first | (((with_reducible refine wpList_store_blk rfl 73 _ _ rfl w.heap.size 0 r.cells rfl rfl _ _ HG3.out HFR.out HIR.out HRO.out ?_); intro w3 hg3 hG3; rw [splice_whole _ _ (by rw [HRL.out];exact HXL.out.symm)] at hg3; have HG4 := Lib.hid hg3; clear hg3)) | go_values | go_skip | go_guarded | go_step | go_upon))
  have hB03 : Below w.heap.size w w3 := hB02.grown hG3 hB02.size (fun k e => by cases e; exact Nat.le_refl _)
  have HZ4 := Lib.hid ((hG3.block (w.heap.size + 1) (by omega) (by simp)).trans HZ3.out)
  have hs3 : w.heap.size + 2 ≤ w3.heap.size := by have := hG3.size; omega
  have hS0 : AddS g b w.heap.size r w3.drew := adds_below (w := w3) ⟨cell_below hB03 c0 (Nat.le_refl _), rangeAt_whole HG4.out⟩ (Below.refl _ _).drew
  have hB03d := hB03.drew
  have hs3d : w.heap.size + 2 ≤ w3.drew.heap.size := hs3
  have hz3d : w3.drew.heap[w.heap.size + 1]? = _ := HZ4.out
  have hr3d : w3.drew.heap[w.heap.size]? = _ := HG4.out
  refine wp_region_noPanic ?_
  refine wp_region_held_drew (S := AddS g b w.heap.size r) (by kernel_rfl) ?_ (fun hHeld => ?_)
  · (exact hS0)
  generalize w3.drew = w4 at hS0 hB03d hs3d hz3d hr3d hHeld ⊢
  refine wpAnyH_take (i := 0) (oi := _) (v := ?_) rfl (by kernel_rfl) (by kernel_rfl) (by kernel_rfl) (fun _ _ _ h => h) (Or.inl ⟨by rfl, ?_⟩) (by assumption) ?_
  rotate_left 1
  · (intro w hSw; (try dsimp only at hSw); go_simp; all_goals (with_reducible rfl))
  try simp only [Act.put, List.getElem_toArray, List.getElem_cons_zero, List.getElem_cons_succ, List.setIfInBounds_toArray, List.set_cons_zero, List.set_cons_succ]
  refine wpAnyH_take (i := 1) (oi := _) (v := ?_) rfl (by kernel_rfl) (by kernel_rfl) (by kernel_rfl) (fun _ _ _ h => h) (Or.inl ⟨by rfl, ?_⟩) (by assumption) ?_
  rotate_left 1
  · (intro w hSw; (try dsimp only at hSw); go_simp; all_goals (with_reducible rfl))
  try simp only [Act.put, List.getElem_toArray, List.getElem_cons_zero, List.getElem_cons_succ, List.setIfInBounds_toArray, List.set_cons_zero, List.set_cons_succ]
  refine wpAnyH_take (i := 2) (oi := _) (v := ?_) rfl (by kernel_rfl) (by kernel_rfl) (by kernel_rfl) (fun _ _ _ h => h) (Or.inl ⟨by rfl, ?_⟩) (by assumption) ?_
  rotate_left 1
  · (intro w hSw; (try dsimp only at hSw); go_simp; all_goals (with_reducible rfl))
  try simp only [Act.put, List.getElem_toArray, List.getElem_cons_zero, List.getElem_cons_succ, List.setIfInBounds_toArray, List.set_cons_zero, List.set_cons_succ]
  refine wpAnyH_take (i := 3) (oi := _) (v := ?_) rfl (by kernel_rfl) (by kernel_rfl) (by kernel_rfl) (fun _ _ _ h => h) (Or.inl ⟨by rfl, ?_⟩) (by assumption) ?_
  rotate_left 1
  · (intro w hSw; (try dsimp only at hSw); go_simp; all_goals (with_reducible rfl))
  try simp only [Act.put, List.getElem_toArray, List.getElem_cons_zero, List.getElem_cons_succ, List.setIfInBounds_toArray, List.set_cons_zero, List.set_cons_succ]
  refine wpAnyH_take (i := 4) (oi := _) (v := ?_) rfl (by kernel_rfl) (by kernel_rfl) (by kernel_rfl) (fun _ _ _ h => h) (Or.inl ⟨by rfl, ?_⟩) (by assumption) ?_
  rotate_left 1
  · (intro w hSw; (try dsimp only at hSw); go_simp; all_goals (with_reducible rfl))
  try simp only [Act.put, List.getElem_toArray, List.getElem_cons_zero, List.getElem_cons_succ, List.setIfInBounds_toArray, List.set_cons_zero, List.set_cons_succ]
  refine wpAnyH_take (i := 5) (oi := _) (v := ?_) rfl (by kernel_rfl) (by kernel_rfl) (by kernel_rfl) (fun _ _ _ h => h) (Or.inl ⟨by rfl, ?_⟩) (by assumption) ?_
  rotate_left 1
  · (intro w hSw; (try dsimp only at hSw); go_simp; all_goals (with_reducible rfl))
  try simp only [Act.put, List.getElem_toArray, List.getElem_cons_zero, List.getElem_cons_succ, List.setIfInBounds_toArray, List.set_cons_zero, List.set_cons_succ]
  refine' wpAnyH_take (i := 6) (oi := _) (v := _) rfl (by kernel_rfl) (by kernel_rfl) (by kernel_rfl) (fun _ _ _ h => h) (yieldsIf_load_mid (by rfl) _ _ rfl _ _ rfl _ _ ?ls1 ?lu1 ?ld1 ?li1) (by assumption) ?lr1
  case ls1 => (intro w hSw; (try dsimp only at hSw); go_split_ands; assumption)
  case lu1 => assumption
  case ld1 => rfl
  case li1 => first | assumption | (simp only [*]; done)
  try simp only [Act.put, List.getElem_toArray, List.getElem_cons_zero, List.getElem_cons_succ, List.setIfInBounds_toArray, List.set_cons_zero, List.set_cons_succ]
  refine wpAnyH_ready (rs := [7]) (by kernel_rfl) (by simp) ?_
  refine AllReadyH.cons (o := _) rfl (fun K hK => ?_) ?_
  rotate_left 1
  · exact AllReadyH.nil
  refine step_build_one (by kernel_rfl) _ _ _ rfl Tryd.underlying133 r.cells rfl iE zE HIE.out HZE.out (by rw [HRL.out];exact hsE) (by rw [HRL.out];omega) (by rw [HRL.out];omega) ?_
  intro wB hgB hBB hsB
  have hB0B := hB03d.trans (hBB.mono hB03d.size)
  refine hK.out _ _ ?_ (fun hHeld => ?_)
  · (exact adds_below hS0 hBB)
  clear hK K
  try simp only [Act.put, List.getElem_toArray, List.getElem_cons_zero, List.getElem_cons_succ, List.setIfInBounds_toArray, List.set_cons_zero, List.set_cons_succ]
  have hSB := hHeld
  have hOB := owns_below (owns_below HVO.out hB03d (Nat.le_refl _)) hBB (Nat.le_refl _)
  refine wpAnyH_ready (rs := [8]) (by kernel_rfl) (by simp) ?_
  refine AllReadyH.cons (o := _) rfl (fun K hK => ?_) ?_
  rotate_left 1
  · exact AllReadyH.nil
  refine step_app3 rfl _ _ _ _ rfl 0 73 iE zE 39 104 Tryd.underlying133 HIE.out HZE.out hsE hbE (by rw [HCE.out];rfl) _ xs.length _ rfl hOB _ rfl 1 r.cells (src_of_rdc Tryd.underlying133 (rd_rowC hgB) (by rw [HRL.out]) HRO.out) (by unfold maxLen;omega) (by omega) (Nat.zero_le _) ?_
  intro v2 wC hOC hgC hvC
  refine hK.out _ _ ?_ (fun hHeld => ?_)
  · (exact adds_grown hSB hgC HNG.out (by intro e; have := HNL.out _ e; omega))
  clear hK K
  try simp only [Act.put, List.getElem_toArray, List.getElem_cons_zero, List.getElem_cons_succ, List.setIfInBounds_toArray, List.set_cons_zero, List.set_cons_succ]
  have hSC := hHeld
  have hmC := (HSM.out.below hB0B hblt).kept hgC (by intro e; have := HNB.out; exact this e.symm)
  refine wpAnyH_ready (rs := [9]) (by kernel_rfl) (by simp) ?_
  refine AllReadyH.cons (o := _) rfl (fun K hK => ?_) ?_
  rotate_left 1
  · exact AllReadyH.nil
  refine step_mapUpdate_s (by kernel_rfl) _ _ _ rfl Tryd.underlying9 Tryd.underlying135 rfl hmC HMN.out s rfl hs v2 rfl ?_
  intro wD hmD hgD
  refine hK.out _ _ ?_ (fun hHeld => ?_)
  · (exact adds_grown hSC hgD (by intro e; exact hgb (Option.some.inj e)) (by intro e; have := Option.some.inj e; omega))
  clear hK K
  try simp only [Act.put, List.getElem_toArray, List.getElem_cons_zero, List.getElem_cons_succ, List.setIfInBounds_toArray, List.set_cons_zero, List.set_cons_succ]
  refine wpAnyH_done (by kernel_rfl) ?_ _
  refine NoPanic.normal ?_
  obtain ⟨hL, hF⟩ := HADD.out wB wC wD v2 hB0B hOC hgC hvC hmD hgD
  have hwB : w.heap.size + 2 ≤ wB.heap.size := by have := hBB.size; omega
  have hwD : wB.heap.size ≤ wD.heap.size := by have := hgC.size; have := hgD.size; omega
  have hzD : wD.heap[w.heap.size + 1]? = some (.cells zEnt.cells.toArray 73 (0, 0)) := by
    rw [hgD.block (w.heap.size + 1) (by have := hgC.size; omega) (by intro e; have := Option.some.inj e; omega), hgC.block (w.heap.size + 1) (by omega) (by intro e; have := HNL.out _ e.symm; omega), hBB.block (w.heap.size + 1) (by omega)]
    exact hz3d
  have HRD := Lib.hid hHeld.2
  have HZD := Lib.hid hzD
  have HL := Lib.hid hL
  have HF := Lib.hid hF
  clear hL hF hzD hHeld hSC hSB hmC hmD hgD hgC hOC hOB hvC hBB hgB hB0B hz3d hr3d
  (repeat' ((fail_if_success at_builtin); first | (first | (with_reducible refine wpList_load_mid rfl 73 _ rfl w.heap.size 0 rfl r.cells _ HRD.out hu73 rfl HIR.out ?_) | ((with_reducible refine wpList_store_blk rfl 73 _ _ rfl (w.heap.size + 1) 0 r.cells rfl rfl _ _ HZD.out HFZ.out HIR.out HRO.out ?_); intro w7 hg7 hG7; rw [splice_whole _ _ (by rw [HRL.out];rfl)] at hg7; have HG7 := Lib.hid hg7; clear hg7)) | go_values | go_skip | go_guarded | go_step | go_upon))
  have hR := run_loadVar_mid (P := Tryd.prog) w7 (w.heap.size + 1) 0 73 r.cells _ (rangeAt_whole HG7.out) hu73 rfl HIR.out
  have HR2 := Lib.hid hR; clear hR
  have hFz : Frm wD.heap.size (fun k => k = w.heap.size + 1) wD w7 := (Frm.refl _ _ _).grown hG7 (Nat.le_refl _) (fun k e _ => by cases e; rfl)
  have h7s := hG7.size
  have hlow := HLOW.out
  refine bodyPost_ret (results_cell rfl _ _ _ ⟨w.heap.size + 1, 0, none⟩ rfl _ HR2.out) rfl ⟨rfl, ?_, ?_⟩
  · refine (HL.out.frm hFz ?_).mono ?_ ?_ (Nat.le_refl _)
    · rintro k (hk | hk) e
      · have := hlow k hk; omega
      · omega
    · rintro k (hk | hk)
      · exact Or.inl hk
      · exact Or.inr ⟨by omega, by omega⟩
    · rintro k (hk | hk)
      · have := hlow k hk; have := hB03d.size; omega
      · exact hk.2
  · exact HF.out.grown hG7 HF.out.size (fun k e hk => by cases e; omega)

end Go.Proofs.YtdpfemhfmofmlaaDoor
