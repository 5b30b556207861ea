/- Connections in memory (package net): Deliver. -/
import Derived.Test.YthgaghpakioglaaNetG
import Derived.Deep.RegionWith
namespace Go.Proofs.Ythgaghpakioglaa
set_option linter.unusedSimpArgs false
set_option linter.unusedVariables false
open Go.RowKit
set_option maxRecDepth 10000
--@PUT2

/-- How many bytes are delivered. -/
def cutN (many : Int) (len : Nat) : Nat := (min (max many 0) (len : Int)).toNat
theorem cutN_le (many : Int) (len : Nat) : cutN many len ≤ len := by unfold cutN; omega
theorem cutN_cast (many : Int) (len : Nat) : (cutN many len : Int) = min (max many 0) (len : Int) := by unfold cutN; omega

theorem NetAt.grownNe {w w' : World} {g z : Nat} {cs : List Conn} {arr : Array Value} {t : TypeId} {fr : Nat × Nat} (h : NetAt w g cs) (hz : w.heap[z]? = some (.cells arr t fr)) (hno : ∀ v ∈ arr, ∀ c, v ≠ bv c) (hgz : g ≠ z) (hg : w.grownBy w' (some z)) : NetAt w' g cs := by
  have hb := hg.block g (Array.getElem?_eq_some_iff.1 h.row).1 (by intro e; cases e; exact hgz rfl)
  have key : ∀ (a : Option Addr) (l : List UInt8), RdB w a l → RdB w' a l := fun a l hr => RdC.grownNe hr hz (fun v hv => not_mem_bvs (hno v hv) l) hg
  exact ⟨hb.trans h.row, h.len, fun c hc => have k := h.ok c hc; ⟨k.wlen, k.wcap, k.wmax, key _ _ k.wrd, k.woff, k.rlen, k.rcap, k.rmax, key _ _ k.rrd, k.roff⟩⟩
theorem netTypes {w : World} {g z : Nat} {cs : List Conn} {arr : Array Value} {t : TypeId} {fr : Nat × Nat} (h : NetAt w g cs) (hz : w.heap[z]? = some (.cells arr t fr)) (ht : t ≠ 100) : g ≠ z := by
  intro e; subst e; rw [h.row] at hz; cases hz; exact ht rfl
theorem Conn.Ok.left {w : World} {g q : Nat} {x : Conn} (h : x.Ok w g) (hq : q ≤ x.wn) :
    ({ x with wa := if x.wc = q then x.wa else x.wa.map (·.add q), wn := x.wn - q, wc := x.wc - q, wl := x.wl.drop q } : Conn).Ok w g := by
  have hcap := h.wcap
  have hmax := h.wmax
  refine ⟨(by show (x.wl.drop q).length = x.wn - q; rw [List.length_drop, h.wlen]), (by show x.wn - q ≤ x.wc - q; omega), (by show x.wn - q ≤ 100000000; omega), ?_, ?_, h.rlen, h.rcap, h.rmax, h.rrd, h.roff⟩
  · exact RdC.dropB h.wrd q (fun hl => by rw [if_neg (by rw [h.wlen] at hl; omega)])
  · intro hl b o e
    have hl2 : 0 < (x.wl.drop q).length := hl
    rw [List.length_drop, h.wlen] at hl2
    have e2 : x.wa.map (·.add q) = some ⟨b, o, Option.none⟩ := by rw [← e]; show _ = if x.wc = q then x.wa else x.wa.map (·.add q); rw [if_neg (by omega)]
    obtain ⟨b1, o1, e1, _⟩ := h.wrd.byte 0 (by rw [h.wlen]; omega)
    rw [e1] at e2
    have := h.woff (by rw [h.wlen]; omega) b1 o1 e1
    simp [Addr.add_lit] at e2
    omega

set_option maxHeartbeats 4000000 in
theorem netDeliverIn (g k z y : Nat) (many : Int) (cs : List Conn) (w : World) (h : NetAt w g cs) (hk : k < cs.length) (hz : w.heap[z]? = some (.cells #[.int .i64 many] 3 (0, 0))) (hy : w.heap[y]? = some (.cells #[.slice Option.none 0 0] 51 (0, 0))) (hzy : z ≠ y) (hm : -9223372036854775808 ≤ many ∧ many ≤ 9223372036854775807) :
    Calls Try.prog 65 #[.pointer (some ⟨g, k * 3, Option.none⟩), .pointer (some ⟨z, 0, Option.none⟩), .pointer (some ⟨y, 0, Option.none⟩)] w fun e w' => e = .returned (.tuple #[]) ∧ ∃ a2 c2 x1 x2, cutN many cs[k].wn ≤ c2 ∧ RdB w' a2 (cs[k].wl.take (cutN many cs[k].wn)) ∧ w'.cell? ⟨y, 0, Option.none⟩ = some (.slice a2 (cutN many cs[k].wn) c2) ∧ NetAt w' g (cs.set k { cs[k] with wa := x1, wn := cs[k].wn - cutN many cs[k].wn, wc := x2, wl := cs[k].wl.drop (cutN many cs[k].wn) }) ∧ Frm w.heap.size (fun k => k = g ∨ k = z ∨ k = y) w w' ∧ w'.frozen? ⟨y, 0, Option.none⟩ = false ∧ (0 < (cs[k].wl.drop (cutN many cs[k].wn)).length → ∀ b o, x1 = some ⟨b, o, Option.none⟩ → ∃ o', cs[k].wa = some ⟨b, o', Option.none⟩) := by
  have hcell := (h.cell k hk).2.1
  have hx := h.ok cs[k] (List.getElem_mem hk)
  have HN := Lib.hid h
  have HROW := Lib.hid h.row
  have HK := Lib.hid hk
  have HX := Lib.hid hx
  have HZ := Lib.hid hz
  have HY := Lib.hid hy
  have c1 : w.cell? ⟨z, 0, Option.none⟩ = some (.int .i64 many) := cell_of_row w z 0 _ _ _ hz
  have f1 : w.frozen? ⟨z, 0, Option.none⟩ = false := frozen_of_row w z 0 _ _ hz
  have HZY := Lib.hid hzy
  clear h hx hz hy hzy
  generalize hyy : cs[k] = y at *
  obtain ⟨yo, ya, yn, yc, yl, za, zn, zc, zl⟩ := y
  dsimp only at hcell
  have HYY := Lib.hid hyy
  clear hyy
  obtain ⟨q, hq⟩ : ∃ q, cutN many yn = q := ⟨_, rfl⟩
  have hqc := cutN_cast many yn
  rw [hq] at hqc
  have HQ := Lib.hid hqc
  have hqn : q ≤ yn := by rw [← hq]; exact cutN_le _ _
  clear hqc
  go_enter Try.func65, Try.ntmps65
  (repeat' ((fail_if_success at_builtin); first | go_values | go_skip | go_guarded | go_step | go_upon))
  go_region
  have hqe : (if (yn : Int) < if many < 0 then 0 else many then (yn : Int) else if many < 0 then 0 else many) = (q : Int) := by
    have := HQ.out
    rw [this]
    omega
  rw [hqe]
  clear hqe
  have hg1 : w.grownBy (w.setCell ⟨z, 0, Option.none⟩ (.int .i64 (q : Int))).drew (some z) := ⟨rfl, rfl, rfl, (grownBy_setCell1 w z 0 _).size, (grownBy_setCell1 w z 0 _).block⟩
  obtain ⟨w1, hw1⟩ : ∃ w1, (w.setCell ⟨z, 0, Option.none⟩ (.int .i64 (q : Int))).drew = w1 := ⟨_, rfl⟩
  have hcz : w1.cell? ⟨z, 0, Option.none⟩ = some (.int .i64 (q : Int)) := by rw [← hw1]; exact World.cell?_setCell_same' _ _ _ (by rw [c1]; rfl)
  rw [hw1] at hg1 ⊢
  have hF1 : Frm w.heap.size (fun k => k = g ∨ k = z ∨ k = y) w w1 := (Frm.refl _ _ _).grown hg1 (Nat.le_refl _) (fun k e _ => by cases e; exact .inr (.inl rfl))
  have hgz : g ≠ z := netTypes HN.out HZ.out (by decide)
  have hN1 := HN.out.grownNe HZ.out (fun v hv c e => by simp at hv; subst hv; cases e) hgz hg1
  have hy1 : w1.heap[y]? = some (.cells #[.slice Option.none 0 0] 51 (0, 0)) := (hg1.block y (Array.getElem?_eq_some_iff.1 HY.out).1 (by intro e; exact HZY.out (Option.some.inj e).symm)).trans HY.out
  have hgy : g ≠ y := netTypes HN.out HY.out (by decide)
  have hc1 : w1.cell? ⟨g, k * 3 + 1, Option.none⟩ = some (.slice ya yn yc) := (hN1.cell k HK.out).2.1.trans (by rw [show cs[k]'HK.out = _ from HYY.out])
  have HN1 := Lib.hid hN1
  have HY1 := Lib.hid hy1
  have HF1 := Lib.hid hF1
  have HQ2 := Lib.hid hq
  clear hN1 hy1 hw1 hg1 c1 f1 hcell hq
  have hs1 : ∀ w, (Instr.slice 51 (.slice ya yn yc) none (some (.int .i64 (q : Int))) none).run Try.prog w = .ok (.slice ya q yc) w := fun w => run_slice_toS (P := Try.prog) 51 5 1 Try.underlying51 byteSize ya yn yc q (Nat.le_trans hqn HX.out.wcap) w
  have hs2 : ∀ w, (Instr.slice 51 (.slice ya yn yc) (some (.int .i64 (q : Int))) none none).run Try.prog w = .ok (.slice (if yc = q then ya else ya.map (·.add q)) (yn - q) (yc - q)) w := fun w => run_slice_from (P := Try.prog) 51 5 Try.underlying51 byteSize ya yn yc q hqn w
  obtain ⟨x1, hx1⟩ : ∃ x1, (if yc = q then ya else ya.map (·.add q)) = x1 := ⟨_, rfl⟩
  rw [hx1] at hs2
  have HX1 := Lib.hid hx1
  clear hx1
  have HFIN : Hid (∀ w3 a2 c2, q ≤ c2 → RdB w3 a2 (yl.take q) → w3.cell? ⟨y, 0, Option.none⟩ = some (.slice a2 q c2) → NetAt w3 g cs → Frm w.heap.size (fun k => k = g ∨ k = z ∨ k = y) w w3 → w3.frozen? ⟨y, 0, Option.none⟩ = false →
      ∃ a2' c2' x1' x2', cutN many yn ≤ c2' ∧ RdB (w3.setCell ⟨g, k * 3 + 1, Option.none⟩ (.slice x1 (yn - q) (yc - q))) a2' (yl.take (cutN many yn)) ∧ (w3.setCell ⟨g, k * 3 + 1, Option.none⟩ (.slice x1 (yn - q) (yc - q))).cell? ⟨y, 0, Option.none⟩ = some (.slice a2' (cutN many yn) c2') ∧
        NetAt (w3.setCell ⟨g, k * 3 + 1, Option.none⟩ (.slice x1 (yn - q) (yc - q))) g (cs.set k { op := yo, wa := x1', wn := yn - cutN many yn, wc := x2', wl := yl.drop (cutN many yn), ra := za, rn := zn, rc := zc, rl := zl }) ∧ Frm w.heap.size (fun k => k = g ∨ k = z ∨ k = y) w (w3.setCell ⟨g, k * 3 + 1, Option.none⟩ (.slice x1 (yn - q) (yc - q))) ∧ (w3.setCell ⟨g, k * 3 + 1, Option.none⟩ (.slice x1 (yn - q) (yc - q))).frozen? ⟨y, 0, Option.none⟩ = false ∧ (0 < (yl.drop (cutN many yn)).length → ∀ b o, x1' = some ⟨b, o, Option.none⟩ → ∃ o', ya = some ⟨b, o', Option.none⟩)) := by
    refine Lib.hid ?_
    intro w3 a2 c2 hc2 hr3 hy3 hN3 hF3 hf3
    rw [HQ2.out]
    have hok3 := hN3.ok _ (List.getElem_mem HK.out)
    rw [show cs[k]'HK.out = _ from HYY.out] at hok3
    refine ⟨a2, c2, x1, yc - q, hc2, ?_, ?_, ?_, ?_, by rw [World.frozen?_setCell]; exact hf3, fun hl b o e => ?_⟩
    · refine RdC.grownNe hr3 hN3.row (fun v hv => not_mem_bvs (fun c e => ?_) _) (grownBy_setCell1 w3 g _ _)
      have hv2 : v ∈ cs.flatMap Conn.cells := by simpa using hv
      obtain ⟨x, _, hx⟩ := List.mem_flatMap.1 hv2
      simp [Conn.cells] at hx
      rcases hx with rfl | rfl | rfl <;> cases e
    · rw [World.cell?_setCell_far _ _ _ _ (by simpa using hgy)]; exact hy3
    · refine hN3.set1 (y := { op := yo, wa := x1, wn := yn - q, wc := yc - q, wl := yl.drop q, ra := za, rn := zn, rc := zc, rl := zl }) HK.out (j := 1) (by decide) ?_ ?_
      · rw [show cs[k]'HK.out = _ from HYY.out]; rfl
      · rw [← HX1.out]; exact hok3.left hqn
    · exact hF3.grown (grownBy_setCell1 w3 g _ _) hF3.size (fun k e _ => by cases e; exact .inl rfl)
    · rw [← HX1.out] at e
      have hl2 := hl
      rw [List.length_drop, hok3.wlen] at hl2
      have hcap := hok3.wcap
      dsimp only at hl2 hcap
      rw [if_neg (by omega)] at e
      obtain ⟨b1, o1, e1, _⟩ := hok3.wrd.byte 0 (by rw [hok3.wlen]; dsimp only; omega)
      dsimp only at e1
      rw [e1] at e ⊢
      simp [Addr.add_lit] at e
      exact ⟨o1, by rw [e.1]⟩
  (repeat' ((fail_if_success at_builtin); first | go_values | go_skip | go_guarded | go_step | go_upon))
  have HX1' := Lib.hid (HN1.out.ok _ (List.getElem_mem HK.out))
  rw [show cs[k]'HK.out = _ from HYY.out] at HX1'
  have hcl : ∀ w', Below w1.heap.size w1 w' → Calls Try.prog 62 #[.slice ya q yc] w' (GotB w' q (yl.take q)) := fun w' hB => bytesClone ya q yc (yl.take q) w' ((HX1'.out.wrd.below hB (Nat.le_refl _)).takeB q) (by rw [List.length_take, HX1'.out.wlen]; exact Nat.min_eq_left hqn) (by have := HX1'.out.wmax; dsimp only at this; omega)
  have HCL := Lib.hid hcl
  have hfy : ∀ w', Below w1.heap.size w1 w' → w'.cell? ⟨y, 0, Option.none⟩ = some (.slice Option.none 0 0) ∧ w'.frozen? ⟨y, 0, Option.none⟩ = false ∧ w'.cell? ⟨z, 0, Option.none⟩ = some (.int .i64 (q : Int)) ∧ w'.cell? ⟨g, k * 3 + 1, Option.none⟩ = some (.slice ya yn yc) ∧ w'.frozen? ⟨g, k * 3 + 1, Option.none⟩ = false := fun w' hB => by
    have h1 := (hB.block y (Array.getElem?_eq_some_iff.1 HY1.out).1).trans HY1.out
    refine ⟨cell_of_row _ _ _ _ _ _ h1, frozen_of_row _ _ _ _ _ h1, cell_below hB hcz (Nat.le_refl _), cell_below hB hc1 (Nat.le_refl _), (HN1.out.below hB).frozen _⟩
  have HFY := Lib.hid hfy
  clear hcl hfy hF1
  have hcz1 : w1.drew.cell? ⟨z, 0, Option.none⟩ = some (.int .i64 (q : Int)) := hcz
  have hB0 : Below w1.heap.size w1 w1.drew := (Below.refl _ _).drew
  have hzlt : z < w1.heap.size := World.block_lt_of_cell? w1 _ hcz
  refine wp_region_noPanic ?_
  refine wp_region_held_drew (S := fun w' => w'.cell? ⟨z, 0, Option.none⟩ = some (.int .i64 (q : Int))) (by kernel_rfl) ?_ (fun hHeld => ?_)
  · (exact hcz1)
  obtain ⟨wd, hwd⟩ : ∃ wd, w1.drew = wd := ⟨_, rfl⟩
  rw [hwd] at hcz1 hHeld hB0 ⊢
  have hcg1 : wd.cell? ⟨g, k * 3 + 1, Option.none⟩ = some (.slice ya yn yc) := (HFY.out wd hB0).2.2.2.1
  refine wpAnyH_take (i := 0) (oi := _) (v := ?_) rfl (by kernel_rfl) (by kernel_rfl) (by kernel_rfl) (fun _ _ _ h => h) (Or.inl ⟨by rfl, ?_⟩) (by assumption) ?_
  rotate_left 1
  · (intro w hSw; (try dsimp only at hSw); go_simp; all_goals (with_reducible rfl))
  try simp only [Act.put, List.getElem_toArray, List.getElem_cons_zero, List.getElem_cons_succ, List.setIfInBounds_toArray, List.set_cons_zero, List.set_cons_succ]
  refine wpAnyH_take (i := 1) (oi := _) (v := ?_) rfl (by kernel_rfl) (by kernel_rfl) (by kernel_rfl) (fun _ _ _ h => h) (Or.inl ⟨by rfl, ?_⟩) (by assumption) ?_
  rotate_left 1
  · (intro w hSw; (try dsimp only at hSw); go_simp; all_goals (with_reducible rfl))
  try simp only [Act.put, List.getElem_toArray, List.getElem_cons_zero, List.getElem_cons_succ, List.setIfInBounds_toArray, List.set_cons_zero, List.set_cons_succ]
  refine wpAnyH_take (i := 2) (oi := _) (v := ?_) rfl (by kernel_rfl) (by kernel_rfl) (by kernel_rfl) (fun _ _ _ h => h) (Or.inl ⟨by rfl, ?_⟩) (by assumption) ?_
  rotate_left 1
  · (intro w hSw; (try dsimp only at hSw); go_simp; all_goals (with_reducible rfl))
  try simp only [Act.put, List.getElem_toArray, List.getElem_cons_zero, List.getElem_cons_succ, List.setIfInBounds_toArray, List.set_cons_zero, List.set_cons_succ]
  refine wpAnyH_take (i := 3) (oi := _) (v := ?_) rfl (by kernel_rfl) (by kernel_rfl) (by kernel_rfl) (fun _ _ _ h => h) (Or.inl ⟨by rfl, ?_⟩) (by assumption) ?_
  rotate_left 1
  · (intro w hSw; (try dsimp only at hSw); go_simp; all_goals (with_reducible rfl))
  try simp only [Act.put, List.getElem_toArray, List.getElem_cons_zero, List.getElem_cons_succ, List.setIfInBounds_toArray, List.set_cons_zero, List.set_cons_succ]
  refine wpAnyH_take (i := 5) (oi := _) (v := ?_) rfl (by kernel_rfl) (by kernel_rfl) (by kernel_rfl) (fun _ _ _ h => h) (Or.inl ⟨by rfl, ?_⟩) (by assumption) ?_
  rotate_left 1
  · (intro w hSw; (try dsimp only at hSw); go_simp; all_goals (with_reducible rfl))
  try simp only [Act.put, List.getElem_toArray, List.getElem_cons_zero, List.getElem_cons_succ, List.setIfInBounds_toArray, List.set_cons_zero, List.set_cons_succ]
  refine wpAnyH_take (i := 8) (oi := _) (v := ?_) rfl (by kernel_rfl) (by kernel_rfl) (by kernel_rfl) (fun _ _ _ h => h) (Or.inl ⟨by rfl, ?_⟩) (by assumption) ?_
  rotate_left 1
  · (intro w hSw; (try dsimp only at hSw); go_simp; all_goals (with_reducible rfl))
  try simp only [Act.put, List.getElem_toArray, List.getElem_cons_zero, List.getElem_cons_succ, List.setIfInBounds_toArray, List.set_cons_zero, List.set_cons_succ]
  refine wpAnyH_take (i := 9) (oi := _) (v := ?_) rfl (by kernel_rfl) (by kernel_rfl) (by kernel_rfl) (fun _ _ _ h => h) (Or.inl ⟨by rfl, ?_⟩) (by assumption) ?_
  rotate_left 1
  · (intro w hSw; (try dsimp only at hSw); go_simp; all_goals (with_reducible rfl))
  try simp only [Act.put, List.getElem_toArray, List.getElem_cons_zero, List.getElem_cons_succ, List.setIfInBounds_toArray, List.set_cons_zero, List.set_cons_succ]
  refine wpAnyH_take (i := 10) (oi := _) (v := ?_) rfl (by kernel_rfl) (by kernel_rfl) (by kernel_rfl) (fun _ _ _ h => h) (Or.inl ⟨by rfl, ?_⟩) (by assumption) ?_
  rotate_left 1
  · (intro w hSw; (try dsimp only at hSw); go_simp; all_goals (with_reducible rfl))
  try simp only [Act.put, List.getElem_toArray, List.getElem_cons_zero, List.getElem_cons_succ, List.setIfInBounds_toArray, List.set_cons_zero, List.set_cons_succ]
  refine wpAnyH_take (i := 12) (oi := _) (v := ?_) rfl (by kernel_rfl) (by kernel_rfl) (by kernel_rfl) (fun _ _ _ h => h) (Or.inl ⟨by rfl, ?_⟩) (by assumption) ?_
  rotate_left 1
  · (intro w hSw; (try dsimp only at hSw); go_simp; all_goals (with_reducible rfl))
  try simp only [Act.put, List.getElem_toArray, List.getElem_cons_zero, List.getElem_cons_succ, List.setIfInBounds_toArray, List.set_cons_zero, List.set_cons_succ]
  --@GEN
  refine wpAnyH_ready (rs := [4, 11]) (by kernel_rfl) (by simp) ?_
  refine AllReadyH.cons (o := _) rfl (fun K hK => ?_) (AllReadyH.cons (o := _) rfl (fun K hK => ?_) AllReadyH.nil)
  · skip
    go_simp
    refine hK.out _ _ ?_ (fun hHeld => ?_)
    · (exact hcz1)
    clear hK K
    try simp only [Act.put, List.getElem_toArray, List.getElem_cons_zero, List.getElem_cons_succ, List.setIfInBounds_toArray, List.set_cons_zero, List.set_cons_succ]
    refine wpAnyH_take (i := 6) (oi := _) (v := ?_) rfl (by kernel_rfl) (by kernel_rfl) (by kernel_rfl) (fun _ _ _ h => h) (Or.inl ⟨by rfl, ?_⟩) (by assumption) ?_
    rotate_left 1
    · (intro w hSw; (try dsimp only at hSw); go_simp; all_goals (with_reducible rfl))
    try simp only [Act.put, List.getElem_toArray, List.getElem_cons_zero, List.getElem_cons_succ, List.setIfInBounds_toArray, List.set_cons_zero, List.set_cons_succ]
    refine wpAnyH_ready (rs := [7, 11]) (by kernel_rfl) (by simp) ?_
    refine AllReadyH.cons (o := _) rfl (fun K hK => ?_) (AllReadyH.cons (o := _) rfl (fun K hK => ?_) AllReadyH.nil)
    · skip
      go_simp
      go_at_call 62
      refine (HCL.out _ hB0).mono ?_
      rintro _ w2 ⟨a2, c2, rfl, hc2, hr2, hB2, _⟩
      dsimp only
      have HR2 := Lib.hid hr2
      clear hr2
      have hB02 := hB0.trans (hB2.mono hB0.size)
      obtain ⟨fy1, fy2, fy3, fy4, fy5⟩ := HFY.out w2 hB02
      refine hK.out _ _ ?_ (fun hHeld => ?_)
      · (exact fy3)
      clear hK K
      try simp only [Act.put, List.getElem_toArray, List.getElem_cons_zero, List.getElem_cons_succ, List.setIfInBounds_toArray, List.set_cons_zero, List.set_cons_succ]
      refine wpAnyH_ready (rs := [11, 14]) (by kernel_rfl) (by simp) ?_
      refine AllReadyH.cons (o := _) rfl (fun K hK => ?_) (AllReadyH.cons (o := _) rfl (fun K hK => ?_) AllReadyH.nil)
      · skip
        go_simp
        refine hK.out _ _ ?_ (fun hHeld => ?_)
        · (exact fy3)
        clear hK K
        try simp only [Act.put, List.getElem_toArray, List.getElem_cons_zero, List.getElem_cons_succ, List.setIfInBounds_toArray, List.set_cons_zero, List.set_cons_succ]
        refine wpAnyH_take (i := 13) (oi := _) (v := ?_) rfl (by kernel_rfl) (by kernel_rfl) (by kernel_rfl) (fun _ _ _ h => h) (Or.inl ⟨by rfl, ?_⟩) (by assumption) ?_
        rotate_left 1
        · (intro w hSw; (try dsimp only at hSw); go_simp; all_goals (with_reducible rfl))
        try simp only [Act.put, List.getElem_toArray, List.getElem_cons_zero, List.getElem_cons_succ, List.setIfInBounds_toArray, List.set_cons_zero, List.set_cons_succ]
        refine wpAnyH_ready (rs := [14]) (by kernel_rfl) (by simp) ?_
        refine AllReadyH.cons (o := _) rfl (fun K hK => ?_) ?_
        rotate_left 1
        · exact AllReadyH.nil
        go_simp
        refine hK.out _ _ ?_ (fun hHeld => ?_)
        · ((rw [World.cell?_setCell_far _ _ _ _ (by simpa using HZY.out.symm)]; exact fy3))
        clear hK K
        try simp only [Act.put, List.getElem_toArray, List.getElem_cons_zero, List.getElem_cons_succ, List.setIfInBounds_toArray, List.set_cons_zero, List.set_cons_succ]
        have HBW := Lib.hid hB02
        obtain ⟨w3, hw3⟩ : ∃ w3, w2.setCell ⟨y, 0, Option.none⟩ (.slice a2 q c2) = w3 := ⟨_, rfl⟩
        have hg3 : w2.grownBy w3 (some y) := by rw [← hw3]; exact grownBy_setCell1 w2 y 0 _
        have hy3 : w3.cell? ⟨y, 0, Option.none⟩ = some (.slice a2 q c2) := by rw [← hw3]; exact World.cell?_setCell_same' _ _ _ (by rw [fy1]; rfl)
        have hz3 : w3.cell? ⟨z, 0, Option.none⟩ = some (.int .i64 (q : Int)) := by rw [← hw3, World.cell?_setCell_far _ _ _ _ (by simpa using HZY.out.symm)]; exact fy3
        have hN3 := (HN1.out.below hB02).grownNe ((hB02.block y (Array.getElem?_eq_some_iff.1 HY1.out).1).trans HY1.out) (fun v hv c e => by simp at hv; subst hv; cases e) hgy hg3
        have hc3 : w3.cell? ⟨g, k * 3 + 1, Option.none⟩ = some (.slice ya yn yc) := (hN3.cell k HK.out).2.1.trans (by rw [show cs[k]'HK.out = _ from HYY.out])
        have hf3 := hN3.frozen (k * 3 + 1)
        have hr3 : RdB w3 a2 (yl.take q) := HR2.out.grownNe ((hB02.block y (Array.getElem?_eq_some_iff.1 HY1.out).1).trans HY1.out) (fun v hv => not_mem_bvs (fun c e => by simp at hv; subst hv; cases e) _) hg3
        have hF3 : Frm w.heap.size (fun k => k = g ∨ k = z ∨ k = y) w w3 := (HF1.out.trans (Frm.ofBelow (HBW.out.mono HF1.out.size))).grown hg3 (by have := HF1.out.size; have := HBW.out.size; omega) (fun k e _ => by cases e; exact .inr (.inr rfl))
        have HFY3 := Lib.hid (show w3.frozen? ⟨y, 0, Option.none⟩ = false by rw [← hw3, World.frozen?_setCell]; exact fy2)
        rw [hw3]
        clear hw3 fy1 fy2 fy3 fy4 fy5
        have HR3 := Lib.hid hr3
        have HN3 := Lib.hid hN3
        have HF3 := Lib.hid hF3
        have HC2 := Lib.hid hc2
        have HY3 := Lib.hid hy3
        clear hr3 hN3 hF3 hc2 hB2 hg3 hy3
        refine wpAnyH_take (i := 15) (oi := _) (v := ?_) rfl (by kernel_rfl) (by kernel_rfl) (by kernel_rfl) (fun _ _ _ h => h) (Or.inl ⟨by rfl, ?_⟩) (by assumption) ?_
        rotate_left 1
        · (intro w hSw; (try dsimp only at hSw); go_simp; all_goals (with_reducible rfl))
        try simp only [Act.put, List.getElem_toArray, List.getElem_cons_zero, List.getElem_cons_succ, List.setIfInBounds_toArray, List.set_cons_zero, List.set_cons_succ]
        refine wpAnyH_take (i := 16) (oi := _) (v := ?_) rfl (by kernel_rfl) (by kernel_rfl) (by kernel_rfl) (fun _ _ _ h => h) (Or.inl ⟨by rfl, ?_⟩) (by assumption) ?_
        rotate_left 1
        · (intro w hSw; (try dsimp only at hSw); go_simp; all_goals (with_reducible rfl))
        try simp only [Act.put, List.getElem_toArray, List.getElem_cons_zero, List.getElem_cons_succ, List.setIfInBounds_toArray, List.set_cons_zero, List.set_cons_succ]
        refine wpAnyH_ready (rs := [17]) (by kernel_rfl) (by simp) ?_
        refine AllReadyH.cons (o := _) rfl (fun K hK => ?_) ?_
        rotate_left 1
        · exact AllReadyH.nil
        go_simp
        refine hK.out _ _ ?_ (fun hHeld => ?_)
        · ((rw [World.cell?_setCell_far _ _ _ _ (by simpa using hgz)]; exact hz3))
        clear hK K
        try simp only [Act.put, List.getElem_toArray, List.getElem_cons_zero, List.getElem_cons_succ, List.setIfInBounds_toArray, List.set_cons_zero, List.set_cons_succ]
        refine wpAnyH_done (by kernel_rfl) ?_ _
        refine NoPanic.normal ?_
        go_end0
        exact ⟨rfl, HFIN.out w3 a2 c2 HC2.out HR3.out HY3.out HN3.out HF3.out HFY3.out⟩
      · skip
        go_simp
        refine hK.out _ _ ?_ (fun hHeld => ?_)
        · ((rw [World.cell?_setCell_far _ _ _ _ (by simpa using HZY.out.symm)]; exact fy3))
        clear hK K
        try simp only [Act.put, List.getElem_toArray, List.getElem_cons_zero, List.getElem_cons_succ, List.setIfInBounds_toArray, List.set_cons_zero, List.set_cons_succ]
        have HBW := Lib.hid hB02
        obtain ⟨w3, hw3⟩ : ∃ w3, w2.setCell ⟨y, 0, Option.none⟩ (.slice a2 q c2) = w3 := ⟨_, rfl⟩
        have hg3 : w2.grownBy w3 (some y) := by rw [← hw3]; exact grownBy_setCell1 w2 y 0 _
        have hy3 : w3.cell? ⟨y, 0, Option.none⟩ = some (.slice a2 q c2) := by rw [← hw3]; exact World.cell?_setCell_same' _ _ _ (by rw [fy1]; rfl)
        have hz3 : w3.cell? ⟨z, 0, Option.none⟩ = some (.int .i64 (q : Int)) := by rw [← hw3, World.cell?_setCell_far _ _ _ _ (by simpa using HZY.out.symm)]; exact fy3
        have hN3 := (HN1.out.below hB02).grownNe ((hB02.block y (Array.getElem?_eq_some_iff.1 HY1.out).1).trans HY1.out) (fun v hv c e => by simp at hv; subst hv; cases e) hgy hg3
        have hc3 : w3.cell? ⟨g, k * 3 + 1, Option.none⟩ = some (.slice ya yn yc) := (hN3.cell k HK.out).2.1.trans (by rw [show cs[k]'HK.out = _ from HYY.out])
        have hf3 := hN3.frozen (k * 3 + 1)
        have hr3 : RdB w3 a2 (yl.take q) := HR2.out.grownNe ((hB02.block y (Array.getElem?_eq_some_iff.1 HY1.out).1).trans HY1.out) (fun v hv => not_mem_bvs (fun c e => by simp at hv; subst hv; cases e) _) hg3
        have hF3 : Frm w.heap.size (fun k => k = g ∨ k = z ∨ k = y) w w3 := (HF1.out.trans (Frm.ofBelow (HBW.out.mono HF1.out.size))).grown hg3 (by have := HF1.out.size; have := HBW.out.size; omega) (fun k e _ => by cases e; exact .inr (.inr rfl))
        have HFY3 := Lib.hid (show w3.frozen? ⟨y, 0, Option.none⟩ = false by rw [← hw3, World.frozen?_setCell]; exact fy2)
        rw [hw3]
        clear hw3 fy1 fy2 fy3 fy4 fy5
        have HR3 := Lib.hid hr3
        have HN3 := Lib.hid hN3
        have HF3 := Lib.hid hF3
        have HC2 := Lib.hid hc2
        have HY3 := Lib.hid hy3
        clear hr3 hN3 hF3 hc2 hB2 hg3 hy3
        refine wpAnyH_ready (rs := [11]) (by kernel_rfl) (by simp) ?_
        refine AllReadyH.cons (o := _) rfl (fun K hK => ?_) ?_
        rotate_left 1
        · exact AllReadyH.nil
        go_simp
        refine hK.out _ _ ?_ (fun hHeld => ?_)
        · (exact hz3)
        clear hK K
        try simp only [Act.put, List.getElem_toArray, List.getElem_cons_zero, List.getElem_cons_succ, List.setIfInBounds_toArray, List.set_cons_zero, List.set_cons_succ]
        refine wpAnyH_take (i := 13) (oi := _) (v := ?_) rfl (by kernel_rfl) (by kernel_rfl) (by kernel_rfl) (fun _ _ _ h => h) (Or.inl ⟨by rfl, ?_⟩) (by assumption) ?_
        rotate_left 1
        · (intro w hSw; (try dsimp only at hSw); go_simp; all_goals (with_reducible rfl))
        try simp only [Act.put, List.getElem_toArray, List.getElem_cons_zero, List.getElem_cons_succ, List.setIfInBounds_toArray, List.set_cons_zero, List.set_cons_succ]
        refine wpAnyH_take (i := 15) (oi := _) (v := ?_) rfl (by kernel_rfl) (by kernel_rfl) (by kernel_rfl) (fun _ _ _ h => h) (Or.inl ⟨by rfl, ?_⟩) (by assumption) ?_
        rotate_left 1
        · (intro w hSw; (try dsimp only at hSw); go_simp; all_goals (with_reducible rfl))
        try simp only [Act.put, List.getElem_toArray, List.getElem_cons_zero, List.getElem_cons_succ, List.setIfInBounds_toArray, List.set_cons_zero, List.set_cons_succ]
        refine wpAnyH_take (i := 16) (oi := _) (v := ?_) rfl (by kernel_rfl) (by kernel_rfl) (by kernel_rfl) (fun _ _ _ h => h) (Or.inl ⟨by rfl, ?_⟩) (by assumption) ?_
        rotate_left 1
        · (intro w hSw; (try dsimp only at hSw); go_simp; all_goals (with_reducible rfl))
        try simp only [Act.put, List.getElem_toArray, List.getElem_cons_zero, List.getElem_cons_succ, List.setIfInBounds_toArray, List.set_cons_zero, List.set_cons_succ]
        refine wpAnyH_ready (rs := [17]) (by kernel_rfl) (by simp) ?_
        refine AllReadyH.cons (o := _) rfl (fun K hK => ?_) ?_
        rotate_left 1
        · exact AllReadyH.nil
        go_simp
        refine hK.out _ _ ?_ (fun hHeld => ?_)
        · ((rw [World.cell?_setCell_far _ _ _ _ (by simpa using hgz)]; exact hz3))
        clear hK K
        try simp only [Act.put, List.getElem_toArray, List.getElem_cons_zero, List.getElem_cons_succ, List.setIfInBounds_toArray, List.set_cons_zero, List.set_cons_succ]
        refine wpAnyH_done (by kernel_rfl) ?_ _
        refine NoPanic.normal ?_
        go_end0
        exact ⟨rfl, HFIN.out w3 a2 c2 HC2.out HR3.out HY3.out HN3.out HF3.out HFY3.out⟩
    · skip
      go_simp
      refine hK.out _ _ ?_ (fun hHeld => ?_)
      · (exact hcz1)
      clear hK K
      try simp only [Act.put, List.getElem_toArray, List.getElem_cons_zero, List.getElem_cons_succ, List.setIfInBounds_toArray, List.set_cons_zero, List.set_cons_succ]
      refine wpAnyH_take (i := 13) (oi := _) (v := ?_) rfl (by kernel_rfl) (by kernel_rfl) (by kernel_rfl) (fun _ _ _ h => h) (Or.inl ⟨by rfl, ?_⟩) (by assumption) ?_
      rotate_left 1
      · (intro w hSw; (try dsimp only at hSw); go_simp; all_goals (with_reducible rfl))
      try simp only [Act.put, List.getElem_toArray, List.getElem_cons_zero, List.getElem_cons_succ, List.setIfInBounds_toArray, List.set_cons_zero, List.set_cons_succ]
      refine wpAnyH_ready (rs := [7]) (by kernel_rfl) (by simp) ?_
      refine AllReadyH.cons (o := _) rfl (fun K hK => ?_) ?_
      rotate_left 1
      · exact AllReadyH.nil
      go_simp
      go_at_call 62
      refine (HCL.out _ hB0).mono ?_
      rintro _ w2 ⟨a2, c2, rfl, hc2, hr2, hB2, _⟩
      dsimp only
      have HR2 := Lib.hid hr2
      clear hr2
      have hB02 := hB0.trans (hB2.mono hB0.size)
      obtain ⟨fy1, fy2, fy3, fy4, fy5⟩ := HFY.out w2 hB02
      refine hK.out _ _ ?_ (fun hHeld => ?_)
      · (exact fy3)
      clear hK K
      try simp only [Act.put, List.getElem_toArray, List.getElem_cons_zero, List.getElem_cons_succ, List.setIfInBounds_toArray, List.set_cons_zero, List.set_cons_succ]
      refine wpAnyH_ready (rs := [14]) (by kernel_rfl) (by simp) ?_
      refine AllReadyH.cons (o := _) rfl (fun K hK => ?_) ?_
      rotate_left 1
      · exact AllReadyH.nil
      go_simp
      refine hK.out _ _ ?_ (fun hHeld => ?_)
      · ((rw [World.cell?_setCell_far _ _ _ _ (by simpa using HZY.out.symm)]; exact fy3))
      clear hK K
      try simp only [Act.put, List.getElem_toArray, List.getElem_cons_zero, List.getElem_cons_succ, List.setIfInBounds_toArray, List.set_cons_zero, List.set_cons_succ]
      have HBW := Lib.hid hB02
      obtain ⟨w3, hw3⟩ : ∃ w3, w2.setCell ⟨y, 0, Option.none⟩ (.slice a2 q c2) = w3 := ⟨_, rfl⟩
      have hg3 : w2.grownBy w3 (some y) := by rw [← hw3]; exact grownBy_setCell1 w2 y 0 _
      have hy3 : w3.cell? ⟨y, 0, Option.none⟩ = some (.slice a2 q c2) := by rw [← hw3]; exact World.cell?_setCell_same' _ _ _ (by rw [fy1]; rfl)
      have hz3 : w3.cell? ⟨z, 0, Option.none⟩ = some (.int .i64 (q : Int)) := by rw [← hw3, World.cell?_setCell_far _ _ _ _ (by simpa using HZY.out.symm)]; exact fy3
      have hN3 := (HN1.out.below hB02).grownNe ((hB02.block y (Array.getElem?_eq_some_iff.1 HY1.out).1).trans HY1.out) (fun v hv c e => by simp at hv; subst hv; cases e) hgy hg3
      have hc3 : w3.cell? ⟨g, k * 3 + 1, Option.none⟩ = some (.slice ya yn yc) := (hN3.cell k HK.out).2.1.trans (by rw [show cs[k]'HK.out = _ from HYY.out])
      have hf3 := hN3.frozen (k * 3 + 1)
      have hr3 : RdB w3 a2 (yl.take q) := HR2.out.grownNe ((hB02.block y (Array.getElem?_eq_some_iff.1 HY1.out).1).trans HY1.out) (fun v hv => not_mem_bvs (fun c e => by simp at hv; subst hv; cases e) _) hg3
      have hF3 : Frm w.heap.size (fun k => k = g ∨ k = z ∨ k = y) w w3 := (HF1.out.trans (Frm.ofBelow (HBW.out.mono HF1.out.size))).grown hg3 (by have := HF1.out.size; have := HBW.out.size; omega) (fun k e _ => by cases e; exact .inr (.inr rfl))
      have HFY3 := Lib.hid (show w3.frozen? ⟨y, 0, Option.none⟩ = false by rw [← hw3, World.frozen?_setCell]; exact fy2)
      rw [hw3]
      clear hw3 fy1 fy2 fy3 fy4 fy5
      have HR3 := Lib.hid hr3
      have HN3 := Lib.hid hN3
      have HF3 := Lib.hid hF3
      have HC2 := Lib.hid hc2
      have HY3 := Lib.hid hy3
      clear hr3 hN3 hF3 hc2 hB2 hg3 hy3
      refine wpAnyH_take (i := 15) (oi := _) (v := ?_) rfl (by kernel_rfl) (by kernel_rfl) (by kernel_rfl) (fun _ _ _ h => h) (Or.inl ⟨by rfl, ?_⟩) (by assumption) ?_
      rotate_left 1
      · (intro w hSw; (try dsimp only at hSw); go_simp; all_goals (with_reducible rfl))
      try simp only [Act.put, List.getElem_toArray, List.getElem_cons_zero, List.getElem_cons_succ, List.setIfInBounds_toArray, List.set_cons_zero, List.set_cons_succ]
      refine wpAnyH_take (i := 16) (oi := _) (v := ?_) rfl (by kernel_rfl) (by kernel_rfl) (by kernel_rfl) (fun _ _ _ h => h) (Or.inl ⟨by rfl, ?_⟩) (by assumption) ?_
      rotate_left 1
      · (intro w hSw; (try dsimp only at hSw); go_simp; all_goals (with_reducible rfl))
      try simp only [Act.put, List.getElem_toArray, List.getElem_cons_zero, List.getElem_cons_succ, List.setIfInBounds_toArray, List.set_cons_zero, List.set_cons_succ]
      refine wpAnyH_ready (rs := [17]) (by kernel_rfl) (by simp) ?_
      refine AllReadyH.cons (o := _) rfl (fun K hK => ?_) ?_
      rotate_left 1
      · exact AllReadyH.nil
      go_simp
      refine hK.out _ _ ?_ (fun hHeld => ?_)
      · ((rw [World.cell?_setCell_far _ _ _ _ (by simpa using hgz)]; exact hz3))
      clear hK K
      try simp only [Act.put, List.getElem_toArray, List.getElem_cons_zero, List.getElem_cons_succ, List.setIfInBounds_toArray, List.set_cons_zero, List.set_cons_succ]
      refine wpAnyH_done (by kernel_rfl) ?_ _
      refine NoPanic.normal ?_
      go_end0
      exact ⟨rfl, HFIN.out w3 a2 c2 HC2.out HR3.out HY3.out HN3.out HF3.out HFY3.out⟩
  · skip
    go_simp
    refine hK.out _ _ ?_ (fun hHeld => ?_)
    · (exact hcz1)
    clear hK K
    try simp only [Act.put, List.getElem_toArray, List.getElem_cons_zero, List.getElem_cons_succ, List.setIfInBounds_toArray, List.set_cons_zero, List.set_cons_succ]
    refine wpAnyH_take (i := 13) (oi := _) (v := ?_) rfl (by kernel_rfl) (by kernel_rfl) (by kernel_rfl) (fun _ _ _ h => h) (Or.inl ⟨by rfl, ?_⟩) (by assumption) ?_
    rotate_left 1
    · (intro w hSw; (try dsimp only at hSw); go_simp; all_goals (with_reducible rfl))
    try simp only [Act.put, List.getElem_toArray, List.getElem_cons_zero, List.getElem_cons_succ, List.setIfInBounds_toArray, List.set_cons_zero, List.set_cons_succ]
    refine wpAnyH_ready (rs := [4]) (by kernel_rfl) (by simp) ?_
    refine AllReadyH.cons (o := _) rfl (fun K hK => ?_) ?_
    rotate_left 1
    · exact AllReadyH.nil
    go_simp
    refine hK.out _ _ ?_ (fun hHeld => ?_)
    · (exact hcz1)
    clear hK K
    try simp only [Act.put, List.getElem_toArray, List.getElem_cons_zero, List.getElem_cons_succ, List.setIfInBounds_toArray, List.set_cons_zero, List.set_cons_succ]
    refine wpAnyH_take (i := 6) (oi := _) (v := ?_) rfl (by kernel_rfl) (by kernel_rfl) (by kernel_rfl) (fun _ _ _ h => h) (Or.inl ⟨by rfl, ?_⟩) (by assumption) ?_
    rotate_left 1
    · (intro w hSw; (try dsimp only at hSw); go_simp; all_goals (with_reducible rfl))
    try simp only [Act.put, List.getElem_toArray, List.getElem_cons_zero, List.getElem_cons_succ, List.setIfInBounds_toArray, List.set_cons_zero, List.set_cons_succ]
    refine wpAnyH_ready (rs := [7]) (by kernel_rfl) (by simp) ?_
    refine AllReadyH.cons (o := _) rfl (fun K hK => ?_) ?_
    rotate_left 1
    · exact AllReadyH.nil
    go_simp
    go_at_call 62
    refine (HCL.out _ hB0).mono ?_
    rintro _ w2 ⟨a2, c2, rfl, hc2, hr2, hB2, _⟩
    dsimp only
    have HR2 := Lib.hid hr2
    clear hr2
    have hB02 := hB0.trans (hB2.mono hB0.size)
    obtain ⟨fy1, fy2, fy3, fy4, fy5⟩ := HFY.out w2 hB02
    refine hK.out _ _ ?_ (fun hHeld => ?_)
    · (exact fy3)
    clear hK K
    try simp only [Act.put, List.getElem_toArray, List.getElem_cons_zero, List.getElem_cons_succ, List.setIfInBounds_toArray, List.set_cons_zero, List.set_cons_succ]
    refine wpAnyH_ready (rs := [14]) (by kernel_rfl) (by simp) ?_
    refine AllReadyH.cons (o := _) rfl (fun K hK => ?_) ?_
    rotate_left 1
    · exact AllReadyH.nil
    go_simp
    refine hK.out _ _ ?_ (fun hHeld => ?_)
    · ((rw [World.cell?_setCell_far _ _ _ _ (by simpa using HZY.out.symm)]; exact fy3))
    clear hK K
    try simp only [Act.put, List.getElem_toArray, List.getElem_cons_zero, List.getElem_cons_succ, List.setIfInBounds_toArray, List.set_cons_zero, List.set_cons_succ]
    have HBW := Lib.hid hB02
    obtain ⟨w3, hw3⟩ : ∃ w3, w2.setCell ⟨y, 0, Option.none⟩ (.slice a2 q c2) = w3 := ⟨_, rfl⟩
    have hg3 : w2.grownBy w3 (some y) := by rw [← hw3]; exact grownBy_setCell1 w2 y 0 _
    have hy3 : w3.cell? ⟨y, 0, Option.none⟩ = some (.slice a2 q c2) := by rw [← hw3]; exact World.cell?_setCell_same' _ _ _ (by rw [fy1]; rfl)
    have hz3 : w3.cell? ⟨z, 0, Option.none⟩ = some (.int .i64 (q : Int)) := by rw [← hw3, World.cell?_setCell_far _ _ _ _ (by simpa using HZY.out.symm)]; exact fy3
    have hN3 := (HN1.out.below hB02).grownNe ((hB02.block y (Array.getElem?_eq_some_iff.1 HY1.out).1).trans HY1.out) (fun v hv c e => by simp at hv; subst hv; cases e) hgy hg3
    have hc3 : w3.cell? ⟨g, k * 3 + 1, Option.none⟩ = some (.slice ya yn yc) := (hN3.cell k HK.out).2.1.trans (by rw [show cs[k]'HK.out = _ from HYY.out])
    have hf3 := hN3.frozen (k * 3 + 1)
    have hr3 : RdB w3 a2 (yl.take q) := HR2.out.grownNe ((hB02.block y (Array.getElem?_eq_some_iff.1 HY1.out).1).trans HY1.out) (fun v hv => not_mem_bvs (fun c e => by simp at hv; subst hv; cases e) _) hg3
    have hF3 : Frm w.heap.size (fun k => k = g ∨ k = z ∨ k = y) w w3 := (HF1.out.trans (Frm.ofBelow (HBW.out.mono HF1.out.size))).grown hg3 (by have := HF1.out.size; have := HBW.out.size; omega) (fun k e _ => by cases e; exact .inr (.inr rfl))
    have HFY3 := Lib.hid (show w3.frozen? ⟨y, 0, Option.none⟩ = false by rw [← hw3, World.frozen?_setCell]; exact fy2)
    rw [hw3]
    clear hw3 fy1 fy2 fy3 fy4 fy5
    have HR3 := Lib.hid hr3
    have HN3 := Lib.hid hN3
    have HF3 := Lib.hid hF3
    have HC2 := Lib.hid hc2
    have HY3 := Lib.hid hy3
    clear hr3 hN3 hF3 hc2 hB2 hg3 hy3
    refine wpAnyH_take (i := 15) (oi := _) (v := ?_) rfl (by kernel_rfl) (by kernel_rfl) (by kernel_rfl) (fun _ _ _ h => h) (Or.inl ⟨by rfl, ?_⟩) (by assumption) ?_
    rotate_left 1
    · (intro w hSw; (try dsimp only at hSw); go_simp; all_goals (with_reducible rfl))
    try simp only [Act.put, List.getElem_toArray, List.getElem_cons_zero, List.getElem_cons_succ, List.setIfInBounds_toArray, List.set_cons_zero, List.set_cons_succ]
    refine wpAnyH_take (i := 16) (oi := _) (v := ?_) rfl (by kernel_rfl) (by kernel_rfl) (by kernel_rfl) (fun _ _ _ h => h) (Or.inl ⟨by rfl, ?_⟩) (by assumption) ?_
    rotate_left 1
    · (intro w hSw; (try dsimp only at hSw); go_simp; all_goals (with_reducible rfl))
    try simp only [Act.put, List.getElem_toArray, List.getElem_cons_zero, List.getElem_cons_succ, List.setIfInBounds_toArray, List.set_cons_zero, List.set_cons_succ]
    refine wpAnyH_ready (rs := [17]) (by kernel_rfl) (by simp) ?_
    refine AllReadyH.cons (o := _) rfl (fun K hK => ?_) ?_
    rotate_left 1
    · exact AllReadyH.nil
    go_simp
    refine hK.out _ _ ?_ (fun hHeld => ?_)
    · ((rw [World.cell?_setCell_far _ _ _ _ (by simpa using hgz)]; exact hz3))
    clear hK K
    try simp only [Act.put, List.getElem_toArray, List.getElem_cons_zero, List.getElem_cons_succ, List.setIfInBounds_toArray, List.set_cons_zero, List.set_cons_succ]
    refine wpAnyH_done (by kernel_rfl) ?_ _
    refine NoPanic.normal ?_
    go_end0
    exact ⟨rfl, HFIN.out w3 a2 c2 HC2.out HR3.out HY3.out HN3.out HF3.out HFY3.out⟩
  --@GENEND

/-- What is delivered. -/
def gotD (cs : List Conn) (c many : Int) : List UInt8 := match connAt cs c with
  | Option.none => []
  | some x => if x.op then x.wl.take (cutN many x.wn) else []

end Go.Proofs.Ythgaghpakioglaa
