/- Connections in memory (package net): Send, Reply. -/
import Derived.Test.YthgaghpakioglaaNetF
import Derived.Test.YthgaghpakioglaaCat
import Derived.Deep.RegionHeld3
namespace Go.Proofs.Ythgaghpakioglaa
set_option linter.unusedSimpArgs false
set_option linter.unusedVariables false
open Go.RowKit
set_option maxRecDepth 10000
--@PUT2

theorem grown_below {w w' : World} (h : Below w.heap.size w w') (row : Option Nat) : w.grownBy w' row := ⟨h.os, h.tape, h.output, h.size, fun k hk _ => h.block k hk⟩
theorem splice_one (pre x post : List Value) (j : Nat) (hx : x.length = 3) (hj : j < 3) (v : Value) : splice (pre ++ (x ++ post)) (pre.length + j) [v] = pre ++ (x.set j v ++ post) := by
  match x, hx with
  | [x0, x1, x2], _ =>
    unfold splice
    have e1 : (pre ++ ([x0, x1, x2] ++ post)).take (pre.length + j) = pre ++ ([x0, x1, x2] ++ post).take j := by rw [List.take_append, List.take_of_length_le (by omega)]; congr 2; omega
    have e2 : (pre ++ ([x0, x1, x2] ++ post)).drop (pre.length + j + [v].length) = ([x0, x1, x2] ++ post).drop (j + 1) := by rw [List.drop_append, List.drop_of_length_le (by simp; omega), List.nil_append]; congr 1; simp; omega
    rw [e1, e2, List.append_assoc]
    congr 1
    match j, hj with
    | 0, _ => rfl
    | 1, _ => rfl
    | 2, _ => rfl

theorem conns_set1 (cs : List Conn) (k : Nat) (hk : k < cs.length) (y : Conn) (j : Nat) (hj : j < 3) (v : Value) (hy : y.cells = cs[k].cells.set j v) : splice (cs.flatMap Conn.cells) (k * 3 + j) [v] = (cs.set k y).flatMap Conn.cells := by
  have e : cs.flatMap Conn.cells = (cs.take k).flatMap Conn.cells ++ (cs[k].cells ++ (cs.drop (k + 1)).flatMap Conn.cells) := by
    rw [← List.flatMap_cons, ← List.flatMap_append, ← List.drop_eq_getElem_cons hk, List.take_append_drop]
  have ht : ((cs.take k).flatMap Conn.cells).length = k * 3 := by rw [conns_length, List.length_take, Nat.min_eq_left (by omega)]
  rw [List.set_eq_take_append_cons_drop, if_pos hk, List.flatMap_append, List.flatMap_cons, hy, e, ← ht]
  exact splice_one _ _ _ j (Conn.cells_length _) hj v

theorem grownBy_setCell1 (w : World) (g o : Nat) (v : Value) : w.grownBy (w.setCell ⟨g, o, Option.none⟩ v) (some g) :=
  ⟨rfl, rfl, rfl, by simp [World.setCell], fun k hk hne => Below.heap_setCell _ _ _ _ (by intro e; subst e; exact hne rfl)⟩
theorem NetAt.set1 {w : World} {g k j : Nat} {cs : List Conn} {y : Conn} {v : Value} (h : NetAt w g cs) (hk : k < cs.length) (hj : j < 3) (hy : y.cells = cs[k].cells.set j v) (hok : y.Ok w g) : NetAt (w.setCell ⟨g, k * 3 + j, Option.none⟩ v) g (cs.set k y) := by
  have hr := heap_setCells_at g [v] (k * 3 + j) _ w h.row (by rw [List.size_toArray, conns_length]; simp; omega)
  rw [List.toList_toArray, conns_set1 cs k hk y j hj v hy] at hr
  have hg : w.grownBy (w.setCell ⟨g, k * 3 + j, Option.none⟩ v) (some g) := grownBy_setCell1 _ _ _ _
  refine ⟨hr, by rw [List.length_set]; exact h.len, fun c hc => ?_⟩
  rcases List.mem_or_eq_of_mem_set hc with h1 | h1
  · exact (h.ok c h1).grown hg
  · rw [h1]; exact hok.grown hg
theorem NetAt.frozen {w : World} {g : Nat} {cs : List Conn} (h : NetAt w g cs) (i : Nat) : w.frozen? ⟨g, i, Option.none⟩ = false := frozen_of_row w g i _ _ h.row
theorem owns_base {w : World} {base e size n c : Nat} {a : Option Addr} {xs : List Value} (h : w.ownsRow base e size (.slice a n c) n xs) {b o : Nat} (ha : a = some ⟨b, o, Option.none⟩) : base ≤ b := by
  rcases h.2 with ⟨h1, _⟩ | ⟨g, cap, cur, h1, h2, _⟩
  · cases h1; cases ha
  · cases h1; cases ha; exact h2
/-- What is written to a connection that was read: new bytes behind the old ones. -/
theorem Conn.Ok.sent {w w2 : World} {g n : Nat} {x : Conn} {a2 : Option Addr} {c2 : Nat} {l : List UInt8} (h : x.Ok w g) (hB : Below w.heap.size w w2) (hc : x.wn + n ≤ c2) (hm : x.wn + n ≤ 100000) (hl : l.length = n) (hr : RdB w2 a2 (x.wl ++ l)) (ho : ∀ b o, a2 = some ⟨b, o, Option.none⟩ → w.heap.size ≤ b) (hg : g < w.heap.size) :
    ({ x with wa := a2, wn := x.wn + n, wc := c2, wl := x.wl ++ l } : Conn).Ok w2 g := by
  have h2 := h.below hB
  exact ⟨(by show (x.wl ++ l).length = x.wn + n; rw [List.length_append, h.wlen, hl]), hc, (by show x.wn + n ≤ 100000000; omega), hr, fun _ b o e => by have := ho b o e; omega, h2.rlen, h2.rcap, h2.rmax, h2.rrd, h2.roff⟩

theorem Conn.Ok.replied {w w2 : World} {g n : Nat} {x : Conn} {a2 : Option Addr} {c2 : Nat} {l : List UInt8} (h : x.Ok w g) (hB : Below w.heap.size w w2) (hc : x.rn + n ≤ c2) (hm : x.rn + n ≤ 100000) (hl : l.length = n) (hr : RdB w2 a2 (x.rl ++ l)) (ho : ∀ b o, a2 = some ⟨b, o, Option.none⟩ → w.heap.size ≤ b) (hg : g < w.heap.size) :
    ({ x with ra := a2, rn := x.rn + n, rc := c2, rl := x.rl ++ l } : Conn).Ok w2 g := by
  have h2 := h.below hB
  exact ⟨h2.wlen, h2.wcap, h2.wmax, h2.wrd, h2.woff, (by show (x.rl ++ l).length = x.rn + n; rw [List.length_append, h.rlen, hl]), hc, (by show x.rn + n ≤ 100000000; omega), hr, fun _ b o e => by have := ho b o e; omega⟩

set_option maxHeartbeats 1000000 in
theorem netSendIn (g k z : Nat) (a : Option Addr) (n cc : Nat) (l : List UInt8) (cs : List Conn) (w : World) (h : NetAt w g cs) (hk : k < cs.length) (hz : w.cell? ⟨z, 0, Option.none⟩ = some (.slice a n cc)) (hr : RdB w a l) (hl : l.length = n) (hn : cs[k].wn + n ≤ 100000) :
    Calls Try.prog 70 #[.pointer (some ⟨g, k * 3, Option.none⟩), .pointer (some ⟨z, 0, Option.none⟩)] w fun e w' => e = .returned (.tuple #[]) ∧ ∃ x1 x2, NetAt w' g (cs.set k { cs[k] with wa := x1, wn := cs[k].wn + n, wc := x2, wl := cs[k].wl ++ l }) ∧ w.grownBy w' (some g) ∧ ∀ b o, x1 = some ⟨b, o, Option.none⟩ → w.heap.size ≤ b := by
  have hcell := (h.cell k hk).2.1
  have hx := h.ok cs[k] (List.getElem_mem hk)
  have HN := Lib.hid h
  have HROW := Lib.hid h.row
  have HK := Lib.hid hk
  have HX := Lib.hid hx
  have HR := Lib.hid hr
  have HL := Lib.hid hl
  clear h hx hr hl
  have HGL := Lib.hid (Array.getElem?_eq_some_iff.1 HROW.out).1
  generalize hy : cs[k] = y at *
  obtain ⟨yo, ya, yn, yc, yl, za, zn, zc, zl⟩ := y
  dsimp only at hcell hn
  have HY := Lib.hid hy
  clear hy
  go_enter Try.func70, Try.ntmps70
  (repeat' ((fail_if_success at_builtin); first | go_values | go_skip | go_guarded | go_step | go_upon))
  refine wp_region_noPanic ?_
  refine wp_region_held_drew (S := fun _ => True) (by kernel_rfl) ?_ (fun hHeld => ?_)
  · (trivial)
  have hcd : w.drew.cell? ⟨g, k * 3 + 1, Option.none⟩ = some (.slice ya yn yc) := hcell
  have hzd : w.drew.cell? ⟨z, 0, Option.none⟩ = some (.slice a n cc) := hz
  clear hcell hz
  have hBd : Below w.heap.size w w.drew := (Below.refl _ _).drew
  obtain ⟨wd, hwd⟩ : ∃ wd, w.drew = wd := ⟨_, rfl⟩
  rw [hwd] at hcd hzd hBd ⊢
  clear hwd
  have hy := HY.out
  refine wpAnyH_take (i := 0) (oi := _) (v := ?_) rfl (by kernel_rfl) (by kernel_rfl) (by kernel_rfl) (fun _ _ _ h => h) (Or.inl ⟨by rfl, ?_⟩) (by assumption) ?_
  rotate_left 1
  · (intro w hSw; (try dsimp only at hSw); go_simp; all_goals (with_reducible rfl))
  try simp only [Act.put, List.getElem_toArray, List.getElem_cons_zero, List.getElem_cons_succ, List.setIfInBounds_toArray, List.set_cons_zero, List.set_cons_succ]
  refine wpAnyH_take (i := 1) (oi := _) (v := ?_) rfl (by kernel_rfl) (by kernel_rfl) (by kernel_rfl) (fun _ _ _ h => h) (Or.inl ⟨by rfl, ?_⟩) (by assumption) ?_
  rotate_left 1
  · (intro w hSw; (try dsimp only at hSw); go_simp; all_goals (with_reducible rfl))
  try simp only [Act.put, List.getElem_toArray, List.getElem_cons_zero, List.getElem_cons_succ, List.setIfInBounds_toArray, List.set_cons_zero, List.set_cons_succ]
  refine wpAnyH_take (i := 2) (oi := _) (v := ?_) rfl (by kernel_rfl) (by kernel_rfl) (by kernel_rfl) (fun _ _ _ h => h) (Or.inl ⟨by rfl, ?_⟩) (by assumption) ?_
  rotate_left 1
  · (intro w hSw; (try dsimp only at hSw); go_simp; all_goals (with_reducible rfl))
  try simp only [Act.put, List.getElem_toArray, List.getElem_cons_zero, List.getElem_cons_succ, List.setIfInBounds_toArray, List.set_cons_zero, List.set_cons_succ]
  refine wpAnyH_take (i := 3) (oi := _) (v := ?_) rfl (by kernel_rfl) (by kernel_rfl) (by kernel_rfl) (fun _ _ _ h => h) (Or.inl ⟨by rfl, ?_⟩) (by assumption) ?_
  rotate_left 1
  · (intro w hSw; (try dsimp only at hSw); go_simp; all_goals (with_reducible rfl))
  try simp only [Act.put, List.getElem_toArray, List.getElem_cons_zero, List.getElem_cons_succ, List.setIfInBounds_toArray, List.set_cons_zero, List.set_cons_succ]
  refine wpAnyH_ready (rs := [4, 5]) (by kernel_rfl) (by simp) ?_
  refine AllReadyH.cons (o := _) rfl (fun K hK => ?_) (AllReadyH.cons (o := _) rfl (fun K hK => ?_) AllReadyH.nil)
  · go_simp
    refine hK.out _ _ trivial (fun _ => ?_)
    clear hK K
    try simp only [Act.put, List.getElem_toArray, List.getElem_cons_zero, List.getElem_cons_succ, List.setIfInBounds_toArray, List.set_cons_zero, List.set_cons_succ]
    refine wpAnyH_ready (rs := [5]) (by kernel_rfl) (by simp) ?_
    refine AllReadyH.cons (o := _) rfl (fun K hK => ?_) ?_
    rotate_left 1
    · exact AllReadyH.nil
    go_simp
    refine hK.out _ _ ?_ (fun hHeld => ?_)
    · (trivial)
    clear hK K
    try simp only [Act.put, List.getElem_toArray, List.getElem_cons_zero, List.getElem_cons_succ, List.setIfInBounds_toArray, List.set_cons_zero, List.set_cons_succ]
    refine wpAnyH_ready (rs := [6]) (by kernel_rfl) (by simp) ?_
    refine AllReadyH.cons (o := _) rfl (fun K hK => ?_) ?_
    rotate_left 1
    · exact AllReadyH.nil
    go_simp
    refine hK.out _ _ ?_ (fun hHeld => ?_)
    · (trivial)
    clear hK K
    try simp only [Act.put, List.getElem_toArray, List.getElem_cons_zero, List.getElem_cons_succ, List.setIfInBounds_toArray, List.set_cons_zero, List.set_cons_succ]
    refine wpAnyH_ready (rs := [7]) (by kernel_rfl) (by simp) ?_
    refine AllReadyH.cons (o := _) rfl (fun K hK => ?_) ?_
    rotate_left 1
    · exact AllReadyH.nil
    go_simp
    go_at_call 71
    refine (concat2 wd.heap.size ya a yn yc n cc yl l _ (heap_alloc_new wd _) ((HX.out.wrd.below hBd (Nat.le_refl _)).alloc _) ((HR.out.below hBd (Nat.le_refl _)).alloc _) HX.out.wlen HL.out hn).mono ?_
    rintro _ w2 ⟨a2, c2, rfl, hc2, hr2, hB2, hO2⟩
    dsimp only
    refine hK.out _ _ ?_ (fun hHeld => ?_)
    · (trivial)
    clear hK K
    try simp only [Act.put, List.getElem_toArray, List.getElem_cons_zero, List.getElem_cons_succ, List.setIfInBounds_toArray, List.set_cons_zero, List.set_cons_succ]
    refine wpAnyH_take (i := 8) (oi := _) (v := ?_) rfl (by kernel_rfl) (by kernel_rfl) (by kernel_rfl) (fun _ _ _ h => h) (Or.inl ⟨by rfl, ?_⟩) (by assumption) ?_
    rotate_left 1
    · (intro w hSw; (try dsimp only at hSw); go_simp; all_goals (with_reducible rfl))
    try simp only [Act.put, List.getElem_toArray, List.getElem_cons_zero, List.getElem_cons_succ, List.setIfInBounds_toArray, List.set_cons_zero, List.set_cons_succ]
    refine wpAnyH_take (i := 9) (oi := _) (v := ?_) rfl (by kernel_rfl) (by kernel_rfl) (by kernel_rfl) (fun _ _ _ h => h) (Or.inl ⟨by rfl, ?_⟩) (by assumption) ?_
    rotate_left 1
    · (intro w hSw; (try dsimp only at hSw); go_simp; all_goals (with_reducible rfl))
    try simp only [Act.put, List.getElem_toArray, List.getElem_cons_zero, List.getElem_cons_succ, List.setIfInBounds_toArray, List.set_cons_zero, List.set_cons_succ]
    have hBd2 : Below w.heap.size w w2 := (hBd.alloc hBd.size _).trans (hB2.mono (by have := hBd.size; simp; omega))
    have hN2 := HN.out.below hBd2
    have hc2' : w2.cell? ⟨g, k * 3 + 1, Option.none⟩ = some (.slice ya yn yc) := (hN2.cell k HK.out).2.1.trans (by rw [show cs[k]'HK.out = _ from hy])
    have hf2' := hN2.frozen (k * 3 + 1)
    have HOF := Lib.hid (show ∀ b o, a2 = some ⟨b, o, Option.none⟩ → w.heap.size ≤ b from fun b o e => by have h1 := owns_base hO2 e; have h2 := hBd.size; simp at h1; omega)
    have HR2 := Lib.hid hr2
    have HC2 := Lib.hid hc2
    have HN2 := Lib.hid hN2
    have HB2 := Lib.hid hBd2
    have HY2 := Lib.hid hy
    clear hcd hzd hB2 hO2 hr2 hc2 hN2 hBd2 hBd hy
    refine wpAnyH_ready (rs := [10]) (by kernel_rfl) (by simp) ?_
    refine AllReadyH.cons (o := _) rfl (fun K hK => ?_) ?_
    rotate_left 1
    · exact AllReadyH.nil
    go_simp
    refine hK.out _ _ ?_ (fun hHeld => ?_)
    · (trivial)
    clear hK K
    try simp only [Act.put, List.getElem_toArray, List.getElem_cons_zero, List.getElem_cons_succ, List.setIfInBounds_toArray, List.set_cons_zero, List.set_cons_succ]
    refine wpAnyH_done (by kernel_rfl) ?_ _
    refine NoPanic.normal ?_
    go_end0
    refine ⟨rfl, a2, c2, ?_, (grown_below HB2.out (some g)).trans (grownBy_setCell1 _ _ _ _), HOF.out⟩
    refine HN2.out.set1 (y := { op := yo, wa := a2, wn := yn + n, wc := c2, wl := yl ++ l, ra := za, rn := zn, rc := zc, rl := zl }) HK.out (j := 1) (by decide) ?_ ?_
    · rw [show cs[k]'HK.out = _ from HY2.out]; rfl
    · exact HX.out.sent HB2.out HC2.out hn HL.out HR2.out HOF.out HGL.out
  · go_simp
    refine hK.out _ _ trivial (fun _ => ?_)
    clear hK K
    try simp only [Act.put, List.getElem_toArray, List.getElem_cons_zero, List.getElem_cons_succ, List.setIfInBounds_toArray, List.set_cons_zero, List.set_cons_succ]
    refine wpAnyH_ready (rs := [4]) (by kernel_rfl) (by simp) ?_
    refine AllReadyH.cons (o := _) rfl (fun K hK => ?_) ?_
    rotate_left 1
    · exact AllReadyH.nil
    go_simp
    refine hK.out _ _ ?_ (fun hHeld => ?_)
    · (trivial)
    clear hK K
    try simp only [Act.put, List.getElem_toArray, List.getElem_cons_zero, List.getElem_cons_succ, List.setIfInBounds_toArray, List.set_cons_zero, List.set_cons_succ]
    refine wpAnyH_ready (rs := [6]) (by kernel_rfl) (by simp) ?_
    refine AllReadyH.cons (o := _) rfl (fun K hK => ?_) ?_
    rotate_left 1
    · exact AllReadyH.nil
    go_simp
    refine hK.out _ _ ?_ (fun hHeld => ?_)
    · (trivial)
    clear hK K
    try simp only [Act.put, List.getElem_toArray, List.getElem_cons_zero, List.getElem_cons_succ, List.setIfInBounds_toArray, List.set_cons_zero, List.set_cons_succ]
    refine wpAnyH_ready (rs := [7]) (by kernel_rfl) (by simp) ?_
    refine AllReadyH.cons (o := _) rfl (fun K hK => ?_) ?_
    rotate_left 1
    · exact AllReadyH.nil
    go_simp
    go_at_call 71
    refine (concat2 wd.heap.size ya a yn yc n cc yl l _ (heap_alloc_new wd _) ((HX.out.wrd.below hBd (Nat.le_refl _)).alloc _) ((HR.out.below hBd (Nat.le_refl _)).alloc _) HX.out.wlen HL.out hn).mono ?_
    rintro _ w2 ⟨a2, c2, rfl, hc2, hr2, hB2, hO2⟩
    dsimp only
    refine hK.out _ _ ?_ (fun hHeld => ?_)
    · (trivial)
    clear hK K
    try simp only [Act.put, List.getElem_toArray, List.getElem_cons_zero, List.getElem_cons_succ, List.setIfInBounds_toArray, List.set_cons_zero, List.set_cons_succ]
    refine wpAnyH_take (i := 8) (oi := _) (v := ?_) rfl (by kernel_rfl) (by kernel_rfl) (by kernel_rfl) (fun _ _ _ h => h) (Or.inl ⟨by rfl, ?_⟩) (by assumption) ?_
    rotate_left 1
    · (intro w hSw; (try dsimp only at hSw); go_simp; all_goals (with_reducible rfl))
    try simp only [Act.put, List.getElem_toArray, List.getElem_cons_zero, List.getElem_cons_succ, List.setIfInBounds_toArray, List.set_cons_zero, List.set_cons_succ]
    refine wpAnyH_take (i := 9) (oi := _) (v := ?_) rfl (by kernel_rfl) (by kernel_rfl) (by kernel_rfl) (fun _ _ _ h => h) (Or.inl ⟨by rfl, ?_⟩) (by assumption) ?_
    rotate_left 1
    · (intro w hSw; (try dsimp only at hSw); go_simp; all_goals (with_reducible rfl))
    try simp only [Act.put, List.getElem_toArray, List.getElem_cons_zero, List.getElem_cons_succ, List.setIfInBounds_toArray, List.set_cons_zero, List.set_cons_succ]
    have hBd2 : Below w.heap.size w w2 := (hBd.alloc hBd.size _).trans (hB2.mono (by have := hBd.size; simp; omega))
    have hN2 := HN.out.below hBd2
    have hc2' : w2.cell? ⟨g, k * 3 + 1, Option.none⟩ = some (.slice ya yn yc) := (hN2.cell k HK.out).2.1.trans (by rw [show cs[k]'HK.out = _ from hy])
    have hf2' := hN2.frozen (k * 3 + 1)
    have HOF := Lib.hid (show ∀ b o, a2 = some ⟨b, o, Option.none⟩ → w.heap.size ≤ b from fun b o e => by have h1 := owns_base hO2 e; have h2 := hBd.size; simp at h1; omega)
    have HR2 := Lib.hid hr2
    have HC2 := Lib.hid hc2
    have HN2 := Lib.hid hN2
    have HB2 := Lib.hid hBd2
    have HY2 := Lib.hid hy
    clear hcd hzd hB2 hO2 hr2 hc2 hN2 hBd2 hBd hy
    refine wpAnyH_ready (rs := [10]) (by kernel_rfl) (by simp) ?_
    refine AllReadyH.cons (o := _) rfl (fun K hK => ?_) ?_
    rotate_left 1
    · exact AllReadyH.nil
    go_simp
    refine hK.out _ _ ?_ (fun hHeld => ?_)
    · (trivial)
    clear hK K
    try simp only [Act.put, List.getElem_toArray, List.getElem_cons_zero, List.getElem_cons_succ, List.setIfInBounds_toArray, List.set_cons_zero, List.set_cons_succ]
    refine wpAnyH_done (by kernel_rfl) ?_ _
    refine NoPanic.normal ?_
    go_end0
    refine ⟨rfl, a2, c2, ?_, (grown_below HB2.out (some g)).trans (grownBy_setCell1 _ _ _ _), HOF.out⟩
    refine HN2.out.set1 (y := { op := yo, wa := a2, wn := yn + n, wc := c2, wl := yl ++ l, ra := za, rn := zn, rc := zc, rl := zl }) HK.out (j := 1) (by decide) ?_ ?_
    · rw [show cs[k]'HK.out = _ from HY2.out]; rfl
    · exact HX.out.sent HB2.out HC2.out hn HL.out HR2.out HOF.out HGL.out

set_option maxHeartbeats 1000000 in
theorem netReplyIn (g k z : Nat) (a : Option Addr) (n cc : Nat) (l : List UInt8) (cs : List Conn) (w : World) (h : NetAt w g cs) (hk : k < cs.length) (hz : w.cell? ⟨z, 0, Option.none⟩ = some (.slice a n cc)) (hr : RdB w a l) (hl : l.length = n) (hn : cs[k].rn + n ≤ 100000) :
    Calls Try.prog 72 #[.pointer (some ⟨g, k * 3, Option.none⟩), .pointer (some ⟨z, 0, Option.none⟩)] w fun e w' => e = .returned (.tuple #[]) ∧ ∃ x1 x2, NetAt w' g (cs.set k { cs[k] with ra := x1, rn := cs[k].rn + n, rc := x2, rl := cs[k].rl ++ l }) ∧ w.grownBy w' (some g) ∧ ∀ b o, x1 = some ⟨b, o, Option.none⟩ → w.heap.size ≤ b := by
  have hcell := (h.cell k hk).2.2
  have hx := h.ok cs[k] (List.getElem_mem hk)
  have HN := Lib.hid h
  have HROW := Lib.hid h.row
  have HK := Lib.hid hk
  have HX := Lib.hid hx
  have HR := Lib.hid hr
  have HL := Lib.hid hl
  clear h hx hr hl
  have HGL := Lib.hid (Array.getElem?_eq_some_iff.1 HROW.out).1
  generalize hy : cs[k] = y at *
  obtain ⟨yo, za, zn, zc, zl, ya, yn, yc, yl⟩ := y
  dsimp only at hcell hn
  have HY := Lib.hid hy
  clear hy
  go_enter Try.func72, Try.ntmps72
  (repeat' ((fail_if_success at_builtin); first | go_values | go_skip | go_guarded | go_step | go_upon))
  refine wp_region_noPanic ?_
  refine wp_region_held_drew (S := fun _ => True) (by kernel_rfl) ?_ (fun hHeld => ?_)
  · (trivial)
  have hcd : w.drew.cell? ⟨g, k * 3 + 2, Option.none⟩ = some (.slice ya yn yc) := hcell
  have hzd : w.drew.cell? ⟨z, 0, Option.none⟩ = some (.slice a n cc) := hz
  clear hcell hz
  have hBd : Below w.heap.size w w.drew := (Below.refl _ _).drew
  obtain ⟨wd, hwd⟩ : ∃ wd, w.drew = wd := ⟨_, rfl⟩
  rw [hwd] at hcd hzd hBd ⊢
  clear hwd
  have hy := HY.out
  refine wpAnyH_take (i := 0) (oi := _) (v := ?_) rfl (by kernel_rfl) (by kernel_rfl) (by kernel_rfl) (fun _ _ _ h => h) (Or.inl ⟨by rfl, ?_⟩) (by assumption) ?_
  rotate_left 1
  · (intro w hSw; (try dsimp only at hSw); go_simp; all_goals (with_reducible rfl))
  try simp only [Act.put, List.getElem_toArray, List.getElem_cons_zero, List.getElem_cons_succ, List.setIfInBounds_toArray, List.set_cons_zero, List.set_cons_succ]
  refine wpAnyH_take (i := 1) (oi := _) (v := ?_) rfl (by kernel_rfl) (by kernel_rfl) (by kernel_rfl) (fun _ _ _ h => h) (Or.inl ⟨by rfl, ?_⟩) (by assumption) ?_
  rotate_left 1
  · (intro w hSw; (try dsimp only at hSw); go_simp; all_goals (with_reducible rfl))
  try simp only [Act.put, List.getElem_toArray, List.getElem_cons_zero, List.getElem_cons_succ, List.setIfInBounds_toArray, List.set_cons_zero, List.set_cons_succ]
  refine wpAnyH_take (i := 2) (oi := _) (v := ?_) rfl (by kernel_rfl) (by kernel_rfl) (by kernel_rfl) (fun _ _ _ h => h) (Or.inl ⟨by rfl, ?_⟩) (by assumption) ?_
  rotate_left 1
  · (intro w hSw; (try dsimp only at hSw); go_simp; all_goals (with_reducible rfl))
  try simp only [Act.put, List.getElem_toArray, List.getElem_cons_zero, List.getElem_cons_succ, List.setIfInBounds_toArray, List.set_cons_zero, List.set_cons_succ]
  refine wpAnyH_take (i := 3) (oi := _) (v := ?_) rfl (by kernel_rfl) (by kernel_rfl) (by kernel_rfl) (fun _ _ _ h => h) (Or.inl ⟨by rfl, ?_⟩) (by assumption) ?_
  rotate_left 1
  · (intro w hSw; (try dsimp only at hSw); go_simp; all_goals (with_reducible rfl))
  try simp only [Act.put, List.getElem_toArray, List.getElem_cons_zero, List.getElem_cons_succ, List.setIfInBounds_toArray, List.set_cons_zero, List.set_cons_succ]
  refine wpAnyH_ready (rs := [4, 5]) (by kernel_rfl) (by simp) ?_
  refine AllReadyH.cons (o := _) rfl (fun K hK => ?_) (AllReadyH.cons (o := _) rfl (fun K hK => ?_) AllReadyH.nil)
  · go_simp
    refine hK.out _ _ trivial (fun _ => ?_)
    clear hK K
    try simp only [Act.put, List.getElem_toArray, List.getElem_cons_zero, List.getElem_cons_succ, List.setIfInBounds_toArray, List.set_cons_zero, List.set_cons_succ]
    refine wpAnyH_ready (rs := [5]) (by kernel_rfl) (by simp) ?_
    refine AllReadyH.cons (o := _) rfl (fun K hK => ?_) ?_
    rotate_left 1
    · exact AllReadyH.nil
    go_simp
    refine hK.out _ _ ?_ (fun hHeld => ?_)
    · (trivial)
    clear hK K
    try simp only [Act.put, List.getElem_toArray, List.getElem_cons_zero, List.getElem_cons_succ, List.setIfInBounds_toArray, List.set_cons_zero, List.set_cons_succ]
    refine wpAnyH_ready (rs := [6]) (by kernel_rfl) (by simp) ?_
    refine AllReadyH.cons (o := _) rfl (fun K hK => ?_) ?_
    rotate_left 1
    · exact AllReadyH.nil
    go_simp
    refine hK.out _ _ ?_ (fun hHeld => ?_)
    · (trivial)
    clear hK K
    try simp only [Act.put, List.getElem_toArray, List.getElem_cons_zero, List.getElem_cons_succ, List.setIfInBounds_toArray, List.set_cons_zero, List.set_cons_succ]
    refine wpAnyH_ready (rs := [7]) (by kernel_rfl) (by simp) ?_
    refine AllReadyH.cons (o := _) rfl (fun K hK => ?_) ?_
    rotate_left 1
    · exact AllReadyH.nil
    go_simp
    go_at_call 71
    refine (concat2 wd.heap.size ya a yn yc n cc yl l _ (heap_alloc_new wd _) ((HX.out.rrd.below hBd (Nat.le_refl _)).alloc _) ((HR.out.below hBd (Nat.le_refl _)).alloc _) HX.out.rlen HL.out hn).mono ?_
    rintro _ w2 ⟨a2, c2, rfl, hc2, hr2, hB2, hO2⟩
    dsimp only
    refine hK.out _ _ ?_ (fun hHeld => ?_)
    · (trivial)
    clear hK K
    try simp only [Act.put, List.getElem_toArray, List.getElem_cons_zero, List.getElem_cons_succ, List.setIfInBounds_toArray, List.set_cons_zero, List.set_cons_succ]
    refine wpAnyH_take (i := 8) (oi := _) (v := ?_) rfl (by kernel_rfl) (by kernel_rfl) (by kernel_rfl) (fun _ _ _ h => h) (Or.inl ⟨by rfl, ?_⟩) (by assumption) ?_
    rotate_left 1
    · (intro w hSw; (try dsimp only at hSw); go_simp; all_goals (with_reducible rfl))
    try simp only [Act.put, List.getElem_toArray, List.getElem_cons_zero, List.getElem_cons_succ, List.setIfInBounds_toArray, List.set_cons_zero, List.set_cons_succ]
    refine wpAnyH_take (i := 9) (oi := _) (v := ?_) rfl (by kernel_rfl) (by kernel_rfl) (by kernel_rfl) (fun _ _ _ h => h) (Or.inl ⟨by rfl, ?_⟩) (by assumption) ?_
    rotate_left 1
    · (intro w hSw; (try dsimp only at hSw); go_simp; all_goals (with_reducible rfl))
    try simp only [Act.put, List.getElem_toArray, List.getElem_cons_zero, List.getElem_cons_succ, List.setIfInBounds_toArray, List.set_cons_zero, List.set_cons_succ]
    have hBd2 : Below w.heap.size w w2 := (hBd.alloc hBd.size _).trans (hB2.mono (by have := hBd.size; simp; omega))
    have hN2 := HN.out.below hBd2
    have hc2' : w2.cell? ⟨g, k * 3 + 2, Option.none⟩ = some (.slice ya yn yc) := (hN2.cell k HK.out).2.2.trans (by rw [show cs[k]'HK.out = _ from hy])
    have hf2' := hN2.frozen (k * 3 + 2)
    have HOF := Lib.hid (show ∀ b o, a2 = some ⟨b, o, Option.none⟩ → w.heap.size ≤ b from fun b o e => by have h1 := owns_base hO2 e; have h2 := hBd.size; simp at h1; omega)
    have HR2 := Lib.hid hr2
    have HC2 := Lib.hid hc2
    have HN2 := Lib.hid hN2
    have HB2 := Lib.hid hBd2
    have HY2 := Lib.hid hy
    clear hcd hzd hB2 hO2 hr2 hc2 hN2 hBd2 hBd hy
    refine wpAnyH_ready (rs := [10]) (by kernel_rfl) (by simp) ?_
    refine AllReadyH.cons (o := _) rfl (fun K hK => ?_) ?_
    rotate_left 1
    · exact AllReadyH.nil
    go_simp
    refine hK.out _ _ ?_ (fun hHeld => ?_)
    · (trivial)
    clear hK K
    try simp only [Act.put, List.getElem_toArray, List.getElem_cons_zero, List.getElem_cons_succ, List.setIfInBounds_toArray, List.set_cons_zero, List.set_cons_succ]
    refine wpAnyH_done (by kernel_rfl) ?_ _
    refine NoPanic.normal ?_
    go_end0
    refine ⟨rfl, a2, c2, ?_, (grown_below HB2.out (some g)).trans (grownBy_setCell1 _ _ _ _), HOF.out⟩
    refine HN2.out.set1 (y := { op := yo, wa := za, wn := zn, wc := zc, wl := zl, ra := a2, rn := yn + n, rc := c2, rl := yl ++ l }) HK.out (j := 2) (by decide) ?_ ?_
    · rw [show cs[k]'HK.out = _ from HY2.out]; rfl
    · exact HX.out.replied HB2.out HC2.out hn HL.out HR2.out HOF.out HGL.out
  · go_simp
    refine hK.out _ _ trivial (fun _ => ?_)
    clear hK K
    try simp only [Act.put, List.getElem_toArray, List.getElem_cons_zero, List.getElem_cons_succ, List.setIfInBounds_toArray, List.set_cons_zero, List.set_cons_succ]
    refine wpAnyH_ready (rs := [4]) (by kernel_rfl) (by simp) ?_
    refine AllReadyH.cons (o := _) rfl (fun K hK => ?_) ?_
    rotate_left 1
    · exact AllReadyH.nil
    go_simp
    refine hK.out _ _ ?_ (fun hHeld => ?_)
    · (trivial)
    clear hK K
    try simp only [Act.put, List.getElem_toArray, List.getElem_cons_zero, List.getElem_cons_succ, List.setIfInBounds_toArray, List.set_cons_zero, List.set_cons_succ]
    refine wpAnyH_ready (rs := [6]) (by kernel_rfl) (by simp) ?_
    refine AllReadyH.cons (o := _) rfl (fun K hK => ?_) ?_
    rotate_left 1
    · exact AllReadyH.nil
    go_simp
    refine hK.out _ _ ?_ (fun hHeld => ?_)
    · (trivial)
    clear hK K
    try simp only [Act.put, List.getElem_toArray, List.getElem_cons_zero, List.getElem_cons_succ, List.setIfInBounds_toArray, List.set_cons_zero, List.set_cons_succ]
    refine wpAnyH_ready (rs := [7]) (by kernel_rfl) (by simp) ?_
    refine AllReadyH.cons (o := _) rfl (fun K hK => ?_) ?_
    rotate_left 1
    · exact AllReadyH.nil
    go_simp
    go_at_call 71
    refine (concat2 wd.heap.size ya a yn yc n cc yl l _ (heap_alloc_new wd _) ((HX.out.rrd.below hBd (Nat.le_refl _)).alloc _) ((HR.out.below hBd (Nat.le_refl _)).alloc _) HX.out.rlen HL.out hn).mono ?_
    rintro _ w2 ⟨a2, c2, rfl, hc2, hr2, hB2, hO2⟩
    dsimp only
    refine hK.out _ _ ?_ (fun hHeld => ?_)
    · (trivial)
    clear hK K
    try simp only [Act.put, List.getElem_toArray, List.getElem_cons_zero, List.getElem_cons_succ, List.setIfInBounds_toArray, List.set_cons_zero, List.set_cons_succ]
    refine wpAnyH_take (i := 8) (oi := _) (v := ?_) rfl (by kernel_rfl) (by kernel_rfl) (by kernel_rfl) (fun _ _ _ h => h) (Or.inl ⟨by rfl, ?_⟩) (by assumption) ?_
    rotate_left 1
    · (intro w hSw; (try dsimp only at hSw); go_simp; all_goals (with_reducible rfl))
    try simp only [Act.put, List.getElem_toArray, List.getElem_cons_zero, List.getElem_cons_succ, List.setIfInBounds_toArray, List.set_cons_zero, List.set_cons_succ]
    refine wpAnyH_take (i := 9) (oi := _) (v := ?_) rfl (by kernel_rfl) (by kernel_rfl) (by kernel_rfl) (fun _ _ _ h => h) (Or.inl ⟨by rfl, ?_⟩) (by assumption) ?_
    rotate_left 1
    · (intro w hSw; (try dsimp only at hSw); go_simp; all_goals (with_reducible rfl))
    try simp only [Act.put, List.getElem_toArray, List.getElem_cons_zero, List.getElem_cons_succ, List.setIfInBounds_toArray, List.set_cons_zero, List.set_cons_succ]
    have hBd2 : Below w.heap.size w w2 := (hBd.alloc hBd.size _).trans (hB2.mono (by have := hBd.size; simp; omega))
    have hN2 := HN.out.below hBd2
    have hc2' : w2.cell? ⟨g, k * 3 + 2, Option.none⟩ = some (.slice ya yn yc) := (hN2.cell k HK.out).2.2.trans (by rw [show cs[k]'HK.out = _ from hy])
    have hf2' := hN2.frozen (k * 3 + 2)
    have HOF := Lib.hid (show ∀ b o, a2 = some ⟨b, o, Option.none⟩ → w.heap.size ≤ b from fun b o e => by have h1 := owns_base hO2 e; have h2 := hBd.size; simp at h1; omega)
    have HR2 := Lib.hid hr2
    have HC2 := Lib.hid hc2
    have HN2 := Lib.hid hN2
    have HB2 := Lib.hid hBd2
    have HY2 := Lib.hid hy
    clear hcd hzd hB2 hO2 hr2 hc2 hN2 hBd2 hBd hy
    refine wpAnyH_ready (rs := [10]) (by kernel_rfl) (by simp) ?_
    refine AllReadyH.cons (o := _) rfl (fun K hK => ?_) ?_
    rotate_left 1
    · exact AllReadyH.nil
    go_simp
    refine hK.out _ _ ?_ (fun hHeld => ?_)
    · (trivial)
    clear hK K
    try simp only [Act.put, List.getElem_toArray, List.getElem_cons_zero, List.getElem_cons_succ, List.setIfInBounds_toArray, List.set_cons_zero, List.set_cons_succ]
    refine wpAnyH_done (by kernel_rfl) ?_ _
    refine NoPanic.normal ?_
    go_end0
    refine ⟨rfl, a2, c2, ?_, (grown_below HB2.out (some g)).trans (grownBy_setCell1 _ _ _ _), HOF.out⟩
    refine HN2.out.set1 (y := { op := yo, wa := za, wn := zn, wc := zc, wl := zl, ra := a2, rn := yn + n, rc := c2, rl := yl ++ l }) HK.out (j := 2) (by decide) ?_ ?_
    · rw [show cs[k]'HK.out = _ from HY2.out]; rfl
    · exact HX.out.replied HB2.out HC2.out hn HL.out HR2.out HOF.out HGL.out

end Go.Proofs.Ythgaghpakioglaa
