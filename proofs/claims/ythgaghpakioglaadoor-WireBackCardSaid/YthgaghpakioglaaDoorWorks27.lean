/- What package sealerylaw27 asks of each: a parcel that comes in pieces. -/
import Derived.Test.YthgaghpakioglaaDoorRefPut
namespace Go.Proofs.YthgaghpakioglaaDoor
set_option linter.unusedSimpArgs false
set_option linter.unusedVariables false
open Go.RowKit
set_option maxRecDepth 10000

/-- A reader all of whose blocks lie from B on. -/
structure InB (B : Nat) (w : World) (g : Nat) (l : List UInt8) (br : Bool) : Prop where
  out : ∃ r, In w g r l br ∧ B ≤ g ∧ (∀ k, r = some k → B ≤ k) ∧ B ≤ w.heap.size

theorem frm_below {B g : Nat} {r : Option Nat} {w w' : World} (h : InF g r w w') (hg : B ≤ g) (hr : ∀ k, r = some k → B ≤ k) (hw : B ≤ w.heap.size) : Below B w w' :=
  h.belowOf hw (fun k hk => by rcases hk with rfl | hk; exact hg; exact hr k hk)

theorem feedB (B g : Nat) (l : List UInt8) (b : Option Addr) (n1 c1 : Nat) (ps : List UInt8) (w : World) (h : InB B w g l false) (hb : RdB w b ps) (e1 : ps.length = n1) (hne : ∀ r, In w g r l false → 0 < ps.length → ∀ blk o, b = some ⟨blk, o, none⟩ → blk ≠ g ∧ r ≠ some blk) (hbig : l.length + n1 ≤ 1000000) :
    Calls Tryd.prog 18 #[.pointer (some ⟨g, 0, none⟩), .slice b n1 c1] w fun e w' => e = .returned (.tuple #[]) ∧ InB B w' g (l ++ ps) false ∧ Below B w w' := by
  obtain ⟨r, hi, hg, hr, hw⟩ := h.out
  refine (inFeed g r l b n1 c1 ps w hi hb e1 (hne r hi) hbig).mono ?_
  rintro _ w' ⟨rfl, r', hi', hn, hf⟩
  have hB := frm_below hf hg hr hw
  refine ⟨rfl, ⟨r', hi', hg, fun k e => ?_, Nat.le_trans hw hf.size⟩, hB⟩
  rcases hn with rfl | ⟨k', rfl, hk'⟩
  · exact hr k e
  · cases e; omega

/-- Bytes that were just laid are fed. -/
theorem feedLit (B g n : Nat) (l ps : List UInt8) (cs : Array Value) (fr : Nat × Nat) (w : World) (h : InB B w g l false) (hcs : (bvs ps).toArray = cs) (e1 : ps.length = n) (hbig : l.length + n ≤ 1000000) :
    Calls Tryd.prog 18 #[.pointer (some ⟨g, 0, none⟩), .slice (some ⟨w.heap.size, 0, none⟩) n n] (w.alloc (.cells cs 5 fr)) fun e w' => e = .returned (.tuple #[]) ∧ InB B w' g (l ++ ps) false ∧ Below B w w' := by
  subst hcs
  obtain ⟨r, hi, hg, hr, hw⟩ := h.out
  have hb : RdB (w.alloc (.cells (bvs ps).toArray 5 fr)) (some ⟨w.heap.size, 0, none⟩) ps := ⟨fun i hi => ⟨_, _, rfl, by rw [Nat.zero_add, cell_of_row _ w.heap.size i _ _ _ (heap_alloc_new w _)]; simp⟩⟩
  have hal : Below w.heap.size w (w.alloc (.cells (bvs ps).toArray 5 fr)) := (Below.refl _ _).alloc (Nat.le_refl _) _
  refine (feedB B g l _ n n ps _ ⟨r, hi.below hal, hg, hr, by simp; omega⟩ hb e1 (fun r' hi' _ blk o e => ?_) hbig).mono ?_
  · cases e
    refine ⟨by have := hi.lt; omega, fun e2 => ?_⟩
    subst e2
    have h1 := hi'.out
    obtain ⟨_, _, _, _, _, h2, _⟩ := h1
    obtain ⟨_, _, _, _, _, h3, _⟩ := (hi.below hal).out
    have h4 := h2.symm.trans h3
    simp only [Option.some.injEq, Obj.cells.injEq, and_true] at h4
    have h5 := congrArg (fun a => a[0]?) h4
    simp at h5
    cases r with
    | none => simp at h5
    | some k =>
      have hk := hi.rlt
      simp at h5 <;> omega
  · rintro _ w' ⟨rfl, hi', hB⟩
    exact ⟨rfl, hi', ((Below.refl _ _).alloc hw _).trans hB⟩

theorem waitsB (B g : Nat) (l : List UInt8) (br : Bool) (w : World) (h : InB B w g l br) :
    Calls Tryd.prog 20 #[.pointer (some ⟨g, 0, none⟩)] w fun e w' => e = .returned (.int .i64 l.length) ∧ InB B w' g l br ∧ Below w.heap.size w w' := by
  obtain ⟨r, hi, hg, hr, hw⟩ := h.out
  refine (inWaits g r l br w hi).mono ?_
  rintro _ w' ⟨rfl, hs⟩
  exact ⟨rfl, ⟨r, hi.below (hs.below _), hg, hr, Nat.le_trans hw (hs.below w.heap.size).size⟩, hs.below _⟩

theorem InB.below {B g : Nat} {l : List UInt8} {br : Bool} {w w' : World} (h : InB B w g l br) (hb : Below w.heap.size w w') : InB B w' g l br := by
  obtain ⟨r, hi, hg, hr, hw⟩ := h.out
  exact ⟨r, hi.below hb, hg, hr, Nat.le_trans hw hb.size⟩

theorem rdb_lit (w : World) (ps : List UInt8) (cs : Array Value) (fr : Nat × Nat) (hcs : (bvs ps).toArray = cs) : RdB (w.alloc (.cells cs 5 fr)) (some ⟨w.heap.size, 0, none⟩) ps := by
  subst hcs
  exact ⟨fun i hi => ⟨_, _, rfl, by rw [Nat.zero_add, cell_of_row _ w.heap.size i _ _ _ (heap_alloc_new w _)]; simp⟩⟩

theorem nextShortB (B g : Nat) (l : List UInt8) (w : World) (h : InB B w g l false) (hl : l.length < 4) :
    Calls Tryd.prog 23 #[.pointer (some ⟨g, 0, none⟩)] w fun e w' => e = .returned (.tuple #[.slice none 0 0, .bool false, .int .i64 0]) ∧ InB B w' g l false ∧ Below w.heap.size w w' := by
  obtain ⟨r, hi, hg, hr, hw⟩ := h.out
  refine (inNextShort g r l w hi hl).mono ?_
  rintro _ w' ⟨rfl, hs⟩
  exact ⟨rfl, h.below (hs.below _), hs.below _⟩
theorem nextWaitB (B g : Nat) (d0 d1 d2 d3 : UInt8) (m : List UInt8) (w : World) (h : InB B w g (d0 :: d1 :: d2 :: d3 :: m) false) (hb : mayB (num4 [d0, d1, d2, d3]) = true) (hw : m.length < num4 [d0, d1, d2, d3]) :
    Calls Tryd.prog 23 #[.pointer (some ⟨g, 0, none⟩)] w fun e w' => e = .returned (.tuple #[.slice none 0 0, .bool false, .int .i64 0]) ∧ InB B w' g (d0 :: d1 :: d2 :: d3 :: m) false ∧ Below w.heap.size w w' := by
  obtain ⟨r, hi, hg, hr, hws⟩ := h.out
  refine (inNextWait g r d0 d1 d2 d3 m w hi hb hw).mono ?_
  rintro _ w' ⟨rfl, hB⟩
  exact ⟨rfl, h.below hB, hB⟩
theorem nextYesB (B g : Nat) (d0 d1 d2 d3 : UInt8) (m : List UInt8) (N : Nat) (w : World) (h : InB B w g (d0 :: d1 :: d2 :: d3 :: m) false) (hN : num4 [d0, d1, d2, d3] = N) (hb : mayB N = true) (hw : N ≤ m.length) :
    Calls Tryd.prog 23 #[.pointer (some ⟨g, 0, none⟩)] w fun e w' => ∃ a c, e = .returned (.tuple #[.slice a N c, .bool true, .int .i64 0]) ∧ N ≤ c ∧ RdB w' a (m.take N) ∧ w'.ownsRow w.heap.size 5 1 (.slice a N c) N (bvs (m.take N)) ∧ InB B w' g (m.drop N) false ∧ Below B w w' := by
  obtain ⟨r, hi, hg, hr, hws⟩ := h.out
  refine (inNextYes g r d0 d1 d2 d3 m N w hi hN hb hw).mono ?_
  rintro _ w' ⟨a, c, rfl, h1, h2, h3, h4, h5⟩
  exact ⟨a, c, rfl, h1, h2, h3, ⟨r, h4, hg, hr, Nat.le_trans hws h5.size⟩, frm_below (r := r) (h5.mono (Nat.le_refl _) (fun k _ h => Or.inl h)) hg hr hws⟩
theorem nextBadB (B g : Nat) (d0 d1 d2 d3 : UInt8) (m : List UInt8) (w : World) (h : InB B w g (d0 :: d1 :: d2 :: d3 :: m) false) (hb : mayB (num4 [d0, d1, d2, d3]) = false) :
    Calls Tryd.prog 23 #[.pointer (some ⟨g, 0, none⟩)] w fun e w' => e = .returned (.tuple #[.slice none 0 0, .bool false, .int .i64 5]) ∧ InB B w' g [] true ∧ Below B w w' := by
  obtain ⟨r, hi, hg, hr, hws⟩ := h.out
  refine (inNextBad g r d0 d1 d2 d3 m w hi hb).mono ?_
  rintro _ w' ⟨rfl, h4, h5⟩
  exact ⟨rfl, ⟨r, h4, hg, hr, Nat.le_trans hws h5.size⟩, frm_below (r := r) (h5.mono (Nat.le_refl _) (fun k _ h => Or.inl h)) hg hr hws⟩
theorem nextBrokenB (B g : Nat) (l : List UInt8) (w : World) (h : InB B w g l true) :
    Calls Tryd.prog 23 #[.pointer (some ⟨g, 0, none⟩)] w fun e w' => e = .returned (.tuple #[.slice none 0 0, .bool false, .int .i64 5]) ∧ InB B w' g [] true ∧ Below B w w' := by
  obtain ⟨r, hi, hg, hr, hws⟩ := h.out
  refine (inNextBroken g r l w hi).mono ?_
  rintro _ w' ⟨rfl, h4, h5⟩
  exact ⟨rfl, ⟨r, h4, hg, hr, Nat.le_trans hws h5.size⟩, ((Below.refl B w)).grown h5 hws (fun k e => by cases e; exact hg)⟩

set_option maxHeartbeats 8000000 in
theorem works27 (w : World) :
    Calls Tryd.prog 8 #[] w fun e w' => e = .returned (.bool true) ∧ Below w.heap.size w w' := by
  go_enter Tryd.func8, Tryd.ntmps8
  (repeat' ((fail_if_success at_builtin); first | go_values | go_skip | go_guarded | go_step | go_upon))
  have hB0 : Below w.heap.size w (w.alloc (.cells #[.int .u8 5, .int .u8 6] 5)) := (Below.refl _ _).alloc (Nat.le_refl _) _
  refine (wirePutYes _ 2 2 [5, 6] _ (rdb_lit w [5, 6] _ _ rfl) rfl (by decide) (by decide)).mono ?_
  rintro _ w1 ⟨a1, c1, rfl, hc1, hr1, hB1, _⟩
  dsimp only
  have hB01 : Below w.heap.size w w1 := hB0.trans (hB1.mono hB0.size)
  have HR1 := Lib.hid hr1; clear hr1
  (repeat' ((fail_if_success at_builtin); first | go_values | go_skip | go_guarded | go_step | go_upon))
  refine (inNew w1).mono ?_
  rintro _ w2 ⟨rfl, hi2, hB2, hs2⟩
  dsimp only
  obtain ⟨g, hg⟩ : ∃ g, w1.heap.size = g := ⟨_, rfl⟩
  have hin2 : InB g w2 g [] false := ⟨none, by rw [← hg]; exact hi2, Nat.le_refl _, (fun k e => by cases e), by omega⟩
  rw [hg] at hB2 ⊢
  have HI2 := Lib.hid hin2; clear hin2 hi2
  clear hs2
  (repeat' ((fail_if_success at_builtin); first | go_values | go_skip | go_guarded | go_step | go_upon))
  refine (feedLit g g 3 [] [0, 0, 0] _ _ w2 HI2.out rfl rfl (by decide)).mono ?_
  rintro _ w3 ⟨rfl, hi3, hB3⟩
  dsimp only
  have HI3 := Lib.hid hi3; clear hi3
  (repeat' ((fail_if_success at_builtin); first | go_values | go_skip | go_guarded | go_step | go_upon))
  refine (nextShortB g g _ w3 HI3.out (by decide)).mono ?_
  rintro _ w4 ⟨rfl, hi4, hB4⟩
  dsimp only
  have HI4 := Lib.hid hi4; clear hi4
  (repeat' ((fail_if_success at_builtin); first | go_values | go_skip | go_guarded | go_step | go_upon))
  refine (feedLit g g 2 [0, 0, 0] [2, 5] _ _ w4 HI4.out rfl rfl (by decide)).mono ?_
  rintro _ w5 ⟨rfl, hi5, hB5⟩
  dsimp only
  have HI5 := Lib.hid hi5; clear hi5
  (repeat' ((fail_if_success at_builtin); first | go_values | go_skip | go_guarded | go_step | go_upon))
  refine (nextWaitB g g 0 0 0 2 [5] w5 HI5.out (by decide) (by decide)).mono ?_
  rintro _ w6 ⟨rfl, hi6, hB6⟩
  dsimp only
  have HI6 := Lib.hid hi6; clear hi6
  (repeat' ((fail_if_success at_builtin); first | go_values | go_skip | go_guarded | go_step | go_upon))
  refine (waitsB g g [0, 0, 0, 2, 5] false w6 HI6.out).mono ?_
  rintro _ w7 ⟨rfl, hi7, hB7⟩
  dsimp only
  have HI7 := Lib.hid hi7; clear hi7
  (repeat' ((fail_if_success at_builtin); first | go_values | go_skip | go_guarded | go_step | go_upon))
  refine (feedLit g g 2 [0, 0, 0, 2, 5] [6, 0] _ _ w7 HI7.out rfl rfl (by decide)).mono ?_
  rintro _ w8 ⟨rfl, hi8, hB8⟩
  dsimp only
  have HI8 := Lib.hid hi8; clear hi8
  (repeat' ((fail_if_success at_builtin); first | go_values | go_skip | go_guarded | go_step | go_upon))
  refine (nextYesB g g 0 0 0 2 [5, 6, 0] 2 w8 HI8.out (by decide) (by decide) (by decide)).mono ?_
  rintro _ w9 ⟨a9, c9, rfl, hc9, hr9, _, hi9, hB9⟩
  dsimp only
  have HI9 := Lib.hid hi9; clear hi9
  have HR9 := Lib.hid hr9; clear hr9
  have z2 : g ≤ w2.heap.size := by have := hB2.size; omega
  have z3 : g ≤ w3.heap.size := Nat.le_trans z2 hB3.size
  have z4 : g ≤ w4.heap.size := Nat.le_trans z3 hB4.size
  have z5 : g ≤ w5.heap.size := Nat.le_trans z4 hB5.size
  have z6 : g ≤ w6.heap.size := Nat.le_trans z5 hB6.size
  have z7 : g ≤ w7.heap.size := Nat.le_trans z6 hB7.size
  have hB19 : Below g w1 w9 := ((((((hB2.trans hB3).trans (hB4.mono z3)).trans hB5).trans (hB6.mono z5)).trans (hB7.mono z6)).trans hB8).trans hB9
  have hr19 := HR1.out.below hB19 (by rw [hg]; exact Nat.le_refl _)
  have HR19 := Lib.hid hr19; clear hr19
  have hB09 : Below w.heap.size w w9 := hB01.trans (hB19.mono (by rw [← hg]; exact hB01.size))
  clear hB0 hB1 hB2 hB3 hB4 hB5 hB6 hB7 hB8 hB9 z2 z3 z4 z5 z6 z7
  (repeat' ((fail_if_success at_builtin); first | go_values | go_skip | go_guarded | go_step | go_upon))
  refine (same_yes (HR19.out.alloc _) (rdb_lit w9 [0, 0, 0, 2, 5, 6] _ _ rfl) (by kernel_rfl) rfl (by decide) (by kernel_rfl)).mono ?_
  rintro _ w10 ⟨rfl, hs10⟩
  dsimp only
  have hB10 : Below w9.heap.size w9 w10 := ((Below.refl _ _).alloc (Nat.le_refl _) _).trans (hs10.below _)
  have HS10 := Lib.hid hs10; clear hs10
  (repeat' ((fail_if_success at_builtin); first | go_values | go_skip | go_guarded | go_step | go_upon))
  refine (same_yes ((HR9.out.below hB10 (Nat.le_refl _)).alloc _) (rdb_lit w10 [5, 6] _ _ rfl) rfl rfl (by decide) rfl).mono ?_
  rintro _ w11 ⟨rfl, hs11⟩
  dsimp only
  have hB11 : Below w10.heap.size w10 w11 := ((Below.refl _ _).alloc (Nat.le_refl _) _).trans (hs11.below _)
  have HS11 := Lib.hid hs11; clear hs11
  have hB911 : Below w9.heap.size w9 w11 := hB10.trans (hB11.mono hB10.size)
  (repeat' ((fail_if_success at_builtin); first | go_values | go_skip | go_guarded | go_step | go_upon))
  refine (waitsB g g [0] false w11 (HI9.out.below hB911)).mono ?_
  rintro _ w12 ⟨rfl, _, hB12⟩
  dsimp only
  (repeat' ((fail_if_success at_builtin); first | go_values | go_skip | go_guarded | go_step | go_upon))
  go_ret
  exact ⟨rfl, (hB09.trans (hB911.mono hB09.size)).trans (hB12.mono (Nat.le_trans hB09.size hB911.size))⟩

end Go.Proofs.YthgaghpakioglaaDoor
