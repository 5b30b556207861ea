/- What package sha computes: turns, spread, take. -/
import Derived.Test.YtdpfemhfmofmlaaDoorRot
import Derived.BigRegion
import Derived.IntWalk
import Derived.StillTailTactics
import Derived.Deep.Light
import Derived.Deep.RegionHeld3
namespace Go.Proofs.YtdpfemhfmofmlaaDoor
open Go.RowKit
set_option maxRecDepth 10000

/-- Numbers as the machine holds them. -/
def ivs (l : List Nat) : List Value := l.map fun n : Nat => Value.int .i64 (n : Int)

theorem wturns_snoc (x : UInt32) (l : List Nat) (k : Nat) (h : k < l.length) : wturns x (l.take (k + 1)) = wxor (wturns x (l.take k)) (rotr x l[k]) := by
  unfold wturns
  rw [List.take_succ_eq_append_getElem h, List.foldl_append]
  rfl

theorem wturns2 (x : UInt32) (a b : Nat) : wturns x [a, b] = wxor (rotr x a) (rotr x b) := by
  unfold wturns wxor
  simp

theorem wnext_eq (b : List UInt8) (t q15 q2 q7 q16 : Nat) (h15 : q15 + 15 = t) (h2 : q2 + 2 = t) (h7 : q7 + 7 = t) (h16 : q16 + 16 = t) :
    wnext (wrow b t) = wadd (wadd (wadd ((wrow b t)[q16]?.getD 0) (wxor (wturns ((wrow b t)[q15]?.getD 0) [7, 18]) (wshr ((wrow b t)[q15]?.getD 0) 3))) ((wrow b t)[q7]?.getD 0)) (wxor (wturns ((wrow b t)[q2]?.getD 0) [17, 19]) (wshr ((wrow b t)[q2]?.getD 0) 10)) := by
  unfold wnext wsig
  rw [wturns2, wturns2, wrow_length, show t - 16 = q16 by omega, show t - 15 = q15 by omega, show t - 7 = q7 by omega, show t - 2 = q2 by omega]

set_option maxHeartbeats 400000 in
theorem turns (x : UInt32) (a : Option Addr) (n c : Nat) (l : List Nat) (w : World) (h : RdC w a (ivs l)) (en : l.length = n) (hn : n ≤ 32) (hl : ∀ v ∈ l, 1 ≤ v ∧ v ≤ 31) :
    Calls Tryd.prog 109 #[.int .u32 (x.toNat : Int), .slice a n c] w fun e w' => e = .returned (.int .u32 ((wturns x l).toNat : Int)) ∧ w = w' := by
  subst en
  go_enter Tryd.func109, Tryd.ntmps109
  (repeat' ((fail_if_success at_builtin); first | go_values | go_skip | go_guarded | go_step | go_upon))
  go_loop [5, 10] (fun v i => ∃ k : Nat, k ≤ l.length ∧ i = .int .i64 k ∧ v = .int .u32 ((wturns x (l.take k)).toNat : Int)) (fun _ i => l.length - (intOf i).toNat)
  case atStart => exact ⟨0, by omega, rfl, rfl⟩
  case round =>
    obtain ⟨k, hk, rfl, rfl⟩ := hrel
    by_cases hlt : k < l.length
    · obtain ⟨b, off, rfl, _⟩ := h.lt (by simp [ivs]; omega)
      have hc := h.cell k (by simp [ivs]; exact hlt)
      have hv := hl l[k] (List.getElem_mem hlt)
      have hs := wturns_snoc x l k hlt
      have hcc : w.cell? ⟨b, off + k, none⟩ = some (.int .i64 (l[k] : Int)) := by rw [hc]; simp [ivs]
      obtain ⟨q, hq⟩ : ∃ q, l[k] = q := ⟨_, rfl⟩
      rw [hq] at hcc hv hs
      have hx := w_xor (wturns x (l.take k)) (rotr x q)
      rw [← hs] at hx
      clear hc hq
      have HS := Lib.hid hs; clear hs
      (repeat' ((fail_if_success at_builtin); first | go_values | go_skip | go_guarded | go_step | go_upon))
      refine (rotL x q hv w).mono ?_
      rintro _ w1 ⟨rfl, rfl⟩
      dsimp only
      (repeat' ((fail_if_success at_builtin); first | go_values | go_skip | go_guarded | go_step | go_upon))
      go_round
      case rel => exact ⟨k + 1, by omega, by go_num, rfl⟩
      case measure => simp [intOf]; omega
    · (repeat' ((fail_if_success at_builtin); first | go_values | go_skip | go_guarded | go_step | go_upon))
      go_ret
      obtain rfl : k = l.length := by omega
      refine ⟨?_, rfl⟩
      rw [List.take_of_length_le (Nat.le_refl _)]
      rfl

theorem rdc_row {w : World} {g : Nat} {cs : List Value} {t : TypeId} {fr : Nat × Nat} (h : w.heap[g]? = some (.cells cs.toArray t fr)) : RdC w (some ⟨g, 0, none⟩) cs := by
  refine ⟨fun i hi => ⟨g, 0, rfl, ?_⟩⟩
  rw [Nat.zero_add, cell_of_row w g i cs.toArray t fr h]
  simp

/-- turns of numbers that were just laid. -/
theorem turnsNew (x : UInt32) (l : List Nat) (cs : Array Value) (n : Nat) (w : World) (hcs : (ivs l).toArray = cs) (en : l.length = n) (hn : n ≤ 32) (hl : ∀ v ∈ l, 1 ≤ v ∧ v ≤ 31) :
    Calls Tryd.prog 109 #[.int .u32 (x.toNat : Int), .slice (some ⟨w.heap.size, 0, none⟩) n n] (w.alloc (.cells cs 3)).drew fun e w' => e = .returned (.int .u32 ((wturns x l).toNat : Int)) ∧ (w.alloc (.cells cs 3)).drew = w' := by
  subst hcs
  exact turns x _ n n l _ (rdc_row (heap_alloc_new w _)) en hn hl

theorem turnsAt (x y : UInt32) (l : List Nat) (g n : Nat) (cs : Array Value) (w : World) (hy : wturns x l = y) (hcs : (ivs l).toArray = cs) (hg : w.heap[g]? = some (.cells cs 3 (0, 0))) (en : l.length = n) (hn : n ≤ 32) (hl : ∀ v ∈ l, 1 ≤ v ∧ v ≤ 31) :
    Calls Tryd.prog 109 #[.int .u32 (x.toNat : Int), .slice (some ⟨g, 0, none⟩) n n] w fun e w' => e = .returned (.int .u32 (y.toNat : Int)) ∧ w = w' := by
  subst hcs hy
  exact turns x _ n n l _ (rdc_row hg) en hn hl

structure SpreadRel (b : List UInt8) (w : World) (z : Nat) (i : Value) (wr : World) : Prop where
  out : ∃ t : Nat, t ≤ 64 ∧ i = .int .i64 t ∧ Below w.heap.size w wr ∧ wr.heap[z]? = some (.cells (zeros 64) 143 (0, 0)) ∧ wr.heap[z + 1]? = some (.cells (rowCells b t) 143 (0, 0))

theorem setCell_drew' (w : World) (a : Addr) (v : Value) : w.drew.setCell a v = (w.setCell a v).drew := rfl

theorem spread_rel {b : List UInt8} {w wr : World} {t : Nat} (hB : Below w.heap.size w wr) (h0 : wr.heap[w.heap.size]? = some (.cells (zeros 64) 143 (0, 0)))
    (h1 : wr.heap[w.heap.size + 1]? = some (.cells (rowCells b t) 143 (0, 0))) (ht : t < 64) (x : UInt32) (hx : x = if t < 16 then word4 b t else wnext (wrow b t)) :
    SpreadRel b w w.heap.size (.int .i64 ((t : Int) + 1)) (wr.setCell ⟨w.heap.size + 1, t, none⟩ (.int .u32 (x.toNat : Int))).drew := by
  refine ⟨⟨t + 1, by omega, by go_num, ((hB.setCell (by simp) _).drew), ?_, ?_⟩⟩
  · show (wr.setCell ⟨w.heap.size + 1, t, none⟩ (.int .u32 (x.toNat : Int))).heap[w.heap.size]? = _
    rw [Below.heap_setCell _ _ _ _ (by simp), h0]
  · show (wr.setCell ⟨w.heap.size + 1, t, none⟩ (.int .u32 (x.toNat : Int))).heap[w.heap.size + 1]? = _
    rw [row_set h1, rowCells_set b t ht x hx]

theorem zero64 : (Tryd.prog.info? 143).bind (fun i => i.zero.map (·.cells)) = some (zeros 64) := by kernel_rfl

set_option maxHeartbeats 1000000 in
theorem spread (g o : Nat) (b : List UInt8) (w : World) (hb : w.rangeAt g o (bvs b)) (hl : b.length = 64) :
    Calls Tryd.prog 108 #[.pointer (some ⟨g, o, none⟩)] w fun e w' => e = .returned (.agg (wvs (wrow b 64)).toArray) ∧ Below w.heap.size w w' := by
  have HL := Lib.hid hl; clear hl
  have HB := Lib.hid hb; clear hb
  obtain ⟨i0, z0, hi0, hz0, hc0⟩ := fresh_parts zero64
  have HI0 := Lib.hid hi0; clear hi0
  have HZ0 := Lib.hid hz0; clear hz0
  have HC0 := Lib.hid hc0; clear hc0
  go_enter Tryd.func108, Tryd.ntmps108
  (repeat' ((fail_if_success at_builtin); first | (first | (refine wpList_alloc_fresh (w := w) rfl 143 rfl (zeros 64) i0 z0 HI0.out HZ0.out HC0.out ?_; intro w1 hg1 hB1 hs1) | (refine wpList_alloc_fresh (w := w1) rfl 143 rfl (zeros 64) i0 z0 HI0.out HZ0.out HC0.out ?_; intro w2 hg2 hB2 hs2)) | go_values | go_skip | go_guarded | go_step | go_upon))
  have hg12 := (hB2.block w.heap.size (by omega)).trans hg1
  have hg22 : w2.heap[w.heap.size + 1]? = some (.cells (zeros 64) 143 (0, 0)) := by rw [← hs1]; exact hg2
  have hB02 := hB1.trans (hB2.mono hB1.size)
  try rw [hs1]
  have HG1 := Lib.hid hg12; clear hg12 hg1
  have HG2 := Lib.hid hg22; clear hg22 hg2
  have HS1 := Lib.hid hs1; clear hs1
  have HS2 := Lib.hid hs2; clear hs2
  go_loopw [7] (fun i wr => SpreadRel b w w.heap.size i wr) (fun i _ => 64 - (intOf i).toNat)
  case atStart => exact ⟨⟨0, by omega, rfl, hB02, HG1.out, HG2.out⟩⟩
  case round =>
    obtain ⟨⟨t, ht, rfl, hB, h0, h1⟩⟩ := hrel
    have H0 := Lib.hid h0
    have H1 := Lib.hid h1
    have hz := (Array.getElem?_eq_some_iff.1 h1).1
    clear h0 h1
    by_cases h16 : t < 16
    · have hw0 : ∀ j, j < 4 → wr.cell? ⟨g, o + (4 * t + j), none⟩ = some (.int .u8 ((b[4 * t + j]?.getD 0).toNat : Int)) := by
        intro j hj
        have hlt : 4 * t + j < b.length := by rw [HL.out]; omega
        have hc := HB.out (4 * t + j) (bv b[4 * t + j]) (by simp [bvs, hlt])
        rw [List.getElem?_eq_getElem hlt]
        rw [hB.cell (p := ⟨g, o + (4 * t + j), none⟩) (World.block_lt_of_cell? w _ hc)]
        exact hc
      have c0 := hw0 0 (by omega)
      have c1 := hw0 1 (by omega)
      have c2 := hw0 2 (by omega)
      have c3 := hw0 3 (by omega)
      obtain ⟨q0, hq0⟩ : ∃ q0, 4 * t = q0 := ⟨_, rfl⟩
      have m0 : IntKind.i64.wrap (4 * (t : Int)) = (q0 : Int) := by rw [IntWalk.i64_in _ (by omega)]; omega
      rw [hq0] at c0 c1 c2 c3
      rw [Nat.add_zero] at c0
      obtain ⟨q1, hq1⟩ : ∃ q1, q0 + 1 = q1 := ⟨_, rfl⟩
      obtain ⟨q2, hq2⟩ : ∃ q2, q0 + 2 = q2 := ⟨_, rfl⟩
      obtain ⟨q3, hq3⟩ : ∃ q3, q0 + 3 = q3 := ⟨_, rfl⟩
      have m1 : IntKind.i64.wrap ((q0 : Int) + 1) = (q1 : Int) := by rw [IntWalk.i64_in _ (by omega)]; omega
      have m2 : IntKind.i64.wrap ((q0 : Int) + 2) = (q2 : Int) := by rw [IntWalk.i64_in _ (by omega)]; omega
      have m3 : IntKind.i64.wrap ((q0 : Int) + 3) = (q3 : Int) := by rw [IntWalk.i64_in _ (by omega)]; omega
      rw [hq1] at c1
      rw [hq2] at c2
      rw [hq3] at c3
      have b0 : (0 : Int) ≤ (q0 : Int) ∧ (q0 : Int) < 64 := by omega
      have b1 : (0 : Int) ≤ (q1 : Int) ∧ (q1 : Int) < 64 := by omega
      have b2 : (0 : Int) ≤ (q2 : Int) ∧ (q2 : Int) < 64 := by omega
      have b3 : (0 : Int) ≤ (q3 : Int) ∧ (q3 : Int) < 64 := by omega
      have f1 := frozen_of_row wr (w.heap.size + 1) t _ _ H1.out
      have e1 : wr.cell? ⟨w.heap.size + 1, t, none⟩ = some (.int .u32 0) := by
        rw [cell_of_row wr _ t _ _ _ H1.out, rowCells_zero b t (by omega)]
      clear hw0
      (repeat' ((fail_if_success at_builtin); first | go_values | go_skip | go_guarded | go_step | go_upon))
      obtain ⟨x0, x1, x2, x3, y0, y1, y2, y3, z0, z1, z2, z3, u0, u1, u2, u3, v0, v1, v2, hwd⟩ := word4_parts b t q0 q1 q2 q3 hq0 hq1 hq2 hq3
      rw [z0] at c0
      rw [z1] at c1
      rw [z2] at c2
      rw [z3] at c3
      clear z0 z1 z2 z3
      have o1 := w_or y0 y1
      have o2 := w_or (wor y0 y1) y2
      have o3 := w_or (wor (wor y0 y1) y2) y3
      go_still_tail 39, (by kernel_rfl)
      (repeat' ((fail_if_success at_builtin); first | go_values | go_skip | go_guarded | go_step | go_upon))
      go_roundw
      case rel =>
        go_light
        exact spread_rel hB H0.out H1.out (by omega) _ (by rw [if_pos h16])
      case measure => go_light; simp [intOf]; omega
    · by_cases h64 : t < 64
      · obtain ⟨q15, hq15⟩ : ∃ q, q + 15 = t := ⟨t - 15, by omega⟩
        obtain ⟨q2, hq2⟩ : ∃ q, q + 2 = t := ⟨t - 2, by omega⟩
        obtain ⟨q7, hq7⟩ : ∃ q, q + 7 = t := ⟨t - 7, by omega⟩
        obtain ⟨q16, hq16⟩ : ∃ q, q + 16 = t := ⟨t - 16, by omega⟩
        have m15 : IntKind.i64.wrap ((t : Int) - 15) = (q15 : Int) := by rw [IntWalk.i64_in _ (by omega)]; omega
        have m2 : IntKind.i64.wrap ((t : Int) - 2) = (q2 : Int) := by rw [IntWalk.i64_in _ (by omega)]; omega
        have m7 : IntKind.i64.wrap ((t : Int) - 7) = (q7 : Int) := by rw [IntWalk.i64_in _ (by omega)]; omega
        have m16 : IntKind.i64.wrap ((t : Int) - 16) = (q16 : Int) := by rw [IntWalk.i64_in _ (by omega)]; omega
        have b15 : (0 : Int) ≤ (q15 : Int) ∧ (q15 : Int) < 64 := by omega
        have b2 : (0 : Int) ≤ (q2 : Int) ∧ (q2 : Int) < 64 := by omega
        have b7 : (0 : Int) ≤ (q7 : Int) ∧ (q7 : Int) < 64 := by omega
        have b16 : (0 : Int) ≤ (q16 : Int) ∧ (q16 : Int) < 64 := by omega
        obtain ⟨x15, hx15⟩ : ∃ x, (wrow b t)[q15]?.getD 0 = x := ⟨_, rfl⟩
        obtain ⟨x2, hx2⟩ : ∃ x, (wrow b t)[q2]?.getD 0 = x := ⟨_, rfl⟩
        obtain ⟨x7, hx7⟩ : ∃ x, (wrow b t)[q7]?.getD 0 = x := ⟨_, rfl⟩
        obtain ⟨x16, hx16⟩ : ∃ x, (wrow b t)[q16]?.getD 0 = x := ⟨_, rfl⟩
        have c15 : wr.cell? ⟨w.heap.size + 1, q15, none⟩ = some (.int .u32 (x15.toNat : Int)) := by rw [cell_of_row wr _ q15 _ _ _ H1.out, rowCells_get b t q15 (by omega) ht, hx15]
        have c2 : wr.cell? ⟨w.heap.size + 1, q2, none⟩ = some (.int .u32 (x2.toNat : Int)) := by rw [cell_of_row wr _ q2 _ _ _ H1.out, rowCells_get b t q2 (by omega) ht, hx2]
        have c7 : wr.cell? ⟨w.heap.size + 1, q7, none⟩ = some (.int .u32 (x7.toNat : Int)) := by rw [cell_of_row wr _ q7 _ _ _ H1.out, rowCells_get b t q7 (by omega) ht, hx7]
        have c16 : wr.cell? ⟨w.heap.size + 1, q16, none⟩ = some (.int .u32 (x16.toNat : Int)) := by rw [cell_of_row wr _ q16 _ _ _ H1.out, rowCells_get b t q16 (by omega) ht, hx16]
        have g1 := w_shr x15 3 (by omega)
        have g2 := w_xor (wturns x15 [7, 18]) (wshr x15 3)
        have g3 := w_shr x2 10 (by omega)
        have g4 := w_xor (wturns x2 [17, 19]) (wshr x2 10)
        rw [show ((2 : Int) ^ 3) = 8 from rfl] at g1
        rw [show ((2 : Int) ^ 10) = 1024 from rfl] at g3
        have HX15 := Lib.hid hx15; clear hx15
        have HX2 := Lib.hid hx2; clear hx2
        have HX7 := Lib.hid hx7; clear hx7
        have HX16 := Lib.hid hx16; clear hx16
        have HQ15 := Lib.hid hq15; clear hq15
        have HQ2 := Lib.hid hq2; clear hq2
        have HQ7 := Lib.hid hq7; clear hq7
        have HQ16 := Lib.hid hq16; clear hq16
        (repeat' ((fail_if_success at_builtin); first | go_values | go_skip | go_guarded | go_step | go_upon))
        go_region_held3 (fun w' => w'.cell? ⟨w.heap.size + 1, q15, none⟩ = some (.int .u32 (x15.toNat : Int))) (go_keep) (first | (go_at_call 109; refine (turnsNew x15 [7, 18] _ 2 wr rfl rfl (by omega) (by decide)).mono ?_; rintro e w' ⟨rfl, rfl⟩))
        (repeat' ((fail_if_success at_builtin); first | go_values | go_skip | go_guarded | go_step | go_upon))
        obtain ⟨w3, hw3⟩ : ∃ w3, (wr.alloc (.cells (ivs [7, 18]).toArray 3)).drew = w3 := ⟨_, rfl⟩
        have hB3 : Below wr.heap.size wr w3 := by rw [← hw3]; exact ((Below.refl _ _).alloc (Nat.le_refl _) _).drew
        rw [hw3]
        clear hw3
        have d2 : w3.cell? ⟨w.heap.size + 1, q2, none⟩ = some (.int .u32 (x2.toNat : Int)) := by rw [hB3.cell (p := ⟨w.heap.size + 1, q2, none⟩) hz]; exact c2
        clear c15 c2
        obtain ⟨s0, hs0⟩ : ∃ s, wxor (wturns x15 [7, 18]) (wshr x15 3) = s := ⟨_, rfl⟩
        rw [hs0]
        have HS0 := Lib.hid hs0; clear hs0
        go_region_held3 (fun w' => w'.cell? ⟨w.heap.size + 1, q2, none⟩ = some (.int .u32 (x2.toNat : Int))) (go_keep) (first | (go_at_call 109; refine (turnsNew x2 [17, 19] _ 2 w3 rfl rfl (by omega) (by decide)).mono ?_; rintro e w' ⟨rfl, rfl⟩))
        (repeat' ((fail_if_success at_builtin); first | go_values | go_skip | go_guarded | go_step | go_upon))
        obtain ⟨w4, hw4⟩ : ∃ w4, (w3.alloc (.cells (ivs [17, 19]).toArray 3)).drew = w4 := ⟨_, rfl⟩
        have hB4 : Below wr.heap.size wr w4 := by rw [← hw4]; exact ((hB3.alloc hB3.size _).drew)
        rw [hw4]
        clear hw4
        have d7 : w4.cell? ⟨w.heap.size + 1, q7, none⟩ = some (.int .u32 (x7.toNat : Int)) := by rw [hB4.cell (p := ⟨w.heap.size + 1, q7, none⟩) hz]; exact c7
        have d16 : w4.cell? ⟨w.heap.size + 1, q16, none⟩ = some (.int .u32 (x16.toNat : Int)) := by rw [hB4.cell (p := ⟨w.heap.size + 1, q16, none⟩) hz]; exact c16
        have e1 : w4.cell? ⟨w.heap.size + 1, t, none⟩ = some (.int .u32 0) := by rw [hB4.cell (p := ⟨w.heap.size + 1, t, none⟩) hz, cell_of_row wr _ t _ _ _ H1.out, rowCells_zero b t h64]
        have f1 : w4.frozen? ⟨w.heap.size + 1, t, none⟩ = false := by rw [hB4.frozen (p := ⟨w.heap.size + 1, t, none⟩) hz]; exact frozen_of_row wr (w.heap.size + 1) t _ _ H1.out
        have h04 := (hB4.block w.heap.size (by omega)).trans H0.out
        have h14 := (hB4.block (w.heap.size + 1) (by omega)).trans H1.out
        have HH0 := Lib.hid h04; clear h04
        have HH1 := Lib.hid h14; clear h14
        clear d2 c7 c16
        obtain ⟨s1, hs1⟩ : ∃ s, wxor (wturns x2 [17, 19]) (wshr x2 10) = s := ⟨_, rfl⟩
        rw [hs1]
        have HS1 := Lib.hid hs1; clear hs1
        have p1 := w_add x16 s0
        have p2 := w_add (wadd x16 s0) x7
        have p3 := w_add (wadd (wadd x16 s0) x7) s1
        have bt : (0 : Int) ≤ (t : Int) ∧ (t : Int) < 64 := by omega
        go_still_tail 15, (by kernel_rfl)
        (repeat' ((fail_if_success at_builtin); first | go_values | go_skip | go_guarded | go_step | go_upon))
        go_roundw
        case rel =>
          go_light
          have hs := spread_rel (hB.trans (hB4.mono (by omega))) HH0.out HH1.out h64 (wadd (wadd (wadd x16 s0) x7) s1) (by
            rw [if_neg h16, ← HS0.out, ← HS1.out, ← HX15.out, ← HX2.out, ← HX7.out, ← HX16.out]
            exact (wnext_eq b t q15 q2 q7 q16 HQ15.out HQ2.out HQ7.out HQ16.out).symm)
          exact hs
        case measure => go_light; simp [intOf]; omega
      · obtain rfl : t = 64 := by omega
        have hA : wr.rangeAt (w.heap.size + 1) 0 (wvs (wrow b 64)) := rangeAt_whole (by have := H1.out; rwa [rowCells_all] at this)
        have HA := Lib.hid hA; clear hA
        have hi : (Tryd.prog.info? 143).map (·.size) = some (wvs (wrow b 64)).length := by rw [wvs_length, wrow_length]; kernel_rfl
        have HI := Lib.hid hi; clear hi
        have hl64 : (wvs (wrow b 64)).length = 64 := by rw [wvs_length, wrow_length]
        have HL64 := Lib.hid hl64; clear hl64
        obtain ⟨R, hRE⟩ : ∃ R, wrow b 64 = R := ⟨_, rfl⟩
        rw [hRE] at HA HI HL64
        have HRE := Lib.hid hRE; clear hRE
        have HO := Lib.hid (wvs_oneCell R)
        (repeat' ((fail_if_success at_builtin); first | (first | (with_reducible refine wpList_load_mid rfl 143 _ rfl (w.heap.size + 1) 0 rfl (wvs R) _ HA.out Tryd.underlying143 rfl HI.out ?_) | (with_reducible refine wpList_store_blk rfl 143 _ _ rfl w.heap.size 0 (wvs R) rfl rfl _ _ H0.out (by rw [HL64.out]; simp [zeros]) HI.out HO.out ?_; intro w5 hg5 hG5; rw [splice_whole _ _ (by rw [HL64.out]; simp [zeros])] at hg5; have HG5 := Lib.hid hg5; clear hg5)) | go_values | go_skip | go_guarded | go_step | go_upon))
        have hR := run_loadVar_mid (P := Tryd.prog) w5 w.heap.size 0 143 (wvs R) _ (rangeAt_whole HG5.out) Tryd.underlying143 rfl HI.out
        have HR := Lib.hid hR; clear hR
        exact bodyPost_ret (results_cell rfl _ _ _ ⟨w.heap.size, 0, none⟩ rfl _ HR.out) rfl ⟨by rw [HRE.out], hB.grown hG5 hB.size (fun k e => by cases e; exact Nat.le_refl _)⟩

end Go.Proofs.YtdpfemhfmofmlaaDoor
