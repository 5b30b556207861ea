/- Keys that are asked for, as they came in; the bytes of which they are drawn (sealerylaw15.of); whether there are too many (sealerylaw15.big). -/
import Derived.Test.YtdpfemhfmofmlaaDoorDrawsL
import Derived.Test.YtdpfemhfmofmlaaDoorOpen
import Derived.BigRegion
import Derived.RegionTactic
namespace Go.Proofs.YtdpfemhfmofmlaaDoor
set_option linter.unusedSimpArgs false
set_option linter.unusedVariables false
open Go.RowKit
set_option maxRecDepth 10000

/-- A key that is asked for. -/
structure Ask where
  a : Option Addr
  n : Nat
  c : Nat
  l : List UInt8
  t : ByteArray
  s : ByteArray
  v : Int
def Ask.cells (x : Ask) : List Value := [.slice x.a x.n x.c, .string x.t, .string x.s, .int .i64 x.v]
theorem Ask.cells_length (x : Ask) : x.cells.length = 4 := rfl
structure Ask.Ok (w : World) (x : Ask) : Prop where
  len : x.l.length = x.n
  cap : x.n ≤ x.c
  fits : x.c ≤ 9223372036854775807
  rd : RdB w x.a x.l
  num : -9223372036854775808 ≤ x.v ∧ x.v ≤ 9223372036854775807
theorem Ask.Ok.below {w w' : World} {x : Ask} (h : x.Ok w) {B : Nat} (hb : Below B w w') (hB : w.heap.size ≤ B) : x.Ok w' := ⟨h.len, h.cap, h.fits, h.rd.below hb hB, h.num⟩

theorem ox_ask {H : Type} {enc : TypeId × Value → H} {w : World} {fuel : Nat} {cs : List Value} {y : DataW H × List MemPlace} (h : Reads enc Tryd.prog w fuel 56 cs y) : ∃ x : Ask, cs = x.cells ∧ x.Ok w := by
  obtain ⟨hl, n, hf⟩ := ox_struct Tryd.underlying56 h
  have hl' : cs.length = 4 := by rw [hl]; kernel_rfl
  obtain ⟨y0, h0⟩ := hf 0 _ rfl
  obtain ⟨y1, h1⟩ := hf 1 _ rfl
  obtain ⟨y2, h2⟩ := hf 2 _ rfl
  obtain ⟨y3, h3⟩ := hf 3 _ rfl
  obtain ⟨a, bn, bc, l, e0, l1, l2, l3, l4⟩ := ox_bytes Tryd.underlying22 Tryd.underlying5 (by kernel_rfl) h0
  obtain ⟨t, e1, m1⟩ := ox_str Tryd.underlying9 h1
  obtain ⟨s, e2, m2⟩ := ox_str Tryd.underlying9 h2
  obtain ⟨k, e3, k1, k2⟩ := ox_int Tryd.underlying3 h3
  have c3 : Tryd.prog.cellsOf 3 = 1 := by kernel_rfl
  have c22 : Tryd.prog.cellsOf 22 = 1 := by kernel_rfl
  have c9 : Tryd.prog.cellsOf 9 = 1 := by kernel_rfl
  have e0' : (cs.drop 0).take 1 = [.slice a bn bc] := by rw [← c22]; exact e0
  have e1' : (cs.drop 1).take 1 = [.string t] := by rw [← c9]; exact e1
  have e2' : (cs.drop 2).take 1 = [.string s] := by rw [← c9]; exact e2
  have e3' : (cs.drop 3).take 1 = [.int .i64 k] := by rw [← c3]; exact e3
  refine ⟨⟨a, bn, bc, l, t, s, k⟩, ?_, ⟨l1, l2, by unfold maxLen at l3; show bc ≤ _; omega, l4, ⟨k1, k2⟩⟩⟩
  unfold Ask.cells
  have hd : cs = cs.drop 0 := rfl
  rw [hd, peel cs 0 1, peel cs (0 + 1) 1, peel cs (0 + 1 + 1) 1, peel_end cs (0 + 1 + 1 + 1) 1 (by omega), e0', e1', e2', e3']
  rfl

/-- Keys that are asked for, one behind the other. -/
theorem asks_at {w : World} {a : Option Addr} {xs : List Ask} (h : RdC w a (xs.flatMap Ask.cells)) (k : Nat) (hk : k < xs.length) : ∃ b off, a = some ⟨b, off, none⟩ ∧ w.rangeAt b (off + k * 4) (xs[k].cells) := by
  have hl := flat_length Ask.cells 4 Ask.cells_length xs
  obtain ⟨b, off, rfl, _⟩ := h.lt (by rw [hl]; omega)
  refine ⟨b, off, rfl, fun j v hj => ?_⟩
  have hj' : j < 4 := by rw [← Ask.cells_length xs[k]]; exact (List.getElem?_eq_some_iff.1 hj).1
  have := h.cell (k * 4 + j) (by rw [hl]; omega)
  rw [Nat.add_assoc, this, ← hj]
  have h2 := flat_get Ask.cells 4 (by omega) Ask.cells_length xs (k * 4 + j)
  rw [List.getElem?_eq_getElem (by rw [hl]; omega), show (k * 4 + j) / 4 = k by omega, show (k * 4 + j) % 4 = j by omega, List.getElem?_eq_getElem hk] at h2
  exact h2

/-- Is a key asked of too much? -/
def Ask.big (x : Ask) : Prop := 512 < max (max (x.n : Int) (x.t.size : Int)) (x.s.size : Int)
instance (x : Ask) : Decidable x.big := inferInstanceAs (Decidable (_ < _))
theorem dec15Yes {P : Prop} [Decidable P] (h : P) : Value.bool true = .bool (decide P) := by rw [decide_eq_true h]
theorem dec15No {P : Prop} [Decidable P] (h : ¬ P) : Value.bool false = .bool (decide P) := by rw [decide_eq_false h]

set_option maxHeartbeats 1000000 in
theorem big15 (a : Option Addr) (n c : Nat) (xs : List Ask) (w : World) (h : RdC w a (xs.flatMap Ask.cells)) (hok : ∀ x ∈ xs, x.Ok w) (en : xs.length = n) :
    Calls Tryd.prog 49 #[.slice a n c] w fun e w' => e = .returned (.bool (decide (40 < n ∨ ∃ x ∈ xs, x.big))) ∧ Below w.heap.size w w' := by
  by_cases h40 : 40 < n
  · go_enter Tryd.func49, Tryd.ntmps49
    (repeat' ((fail_if_success at_builtin); first | go_values | go_skip | go_guarded | go_step | go_upon))
    go_ret
    exact ⟨congrArg Ending.returned (dec15Yes (Or.inl h40)), Below.refl _ _⟩
  · subst en
    go_enter Tryd.func49, Tryd.ntmps49
    (repeat' ((fail_if_success at_builtin); first | go_values | go_skip | go_guarded | go_step | go_upon))
    go_loopw [3] (fun i wr => ∃ k : Nat, k ≤ xs.length ∧ i = .int .i64 k ∧ Below w.heap.size w wr ∧ ∀ x ∈ xs.take k, ¬ x.big) (fun i _ => xs.length - (intOf i).toNat)
    case atStart => exact ⟨0, by omega, rfl, Below.refl _ _, by simp⟩
    case round =>
      obtain ⟨k, hk, rfl, hB, hs⟩ := hrel
      have HS := Lib.hid hs; clear hs
      have HB := Lib.hid hB; clear hB
      by_cases hlt : k < xs.length
      · obtain ⟨b, off, rfl, hra⟩ := asks_at (h.below HB.out (Nat.le_refl _)) k hlt
        have c0 : wr.cell? ⟨b, off + k * 4, none⟩ = some (.slice xs[k].a xs[k].n xs[k].c) := hra 0 _ rfl
        have c1 : wr.cell? ⟨b, off + k * 4 + 1, none⟩ = some (.string xs[k].t) := hra 1 _ rfl
        have c2 : wr.cell? ⟨b, off + k * 4 + 2, none⟩ = some (.string xs[k].s) := hra 2 _ rfl
        clear hra
        have HX := Lib.hid (show xs[k].big ↔ 512 < max (max (xs[k].n : Int) (xs[k].t.size : Int)) (xs[k].s.size : Int) from Iff.rfl)
        have hmx := fun w => run_max3 (P := Tryd.prog) w #[3, 3, 3] 3 .i64 .i64 .i64 (xs[k].n : Int) (xs[k].t.size : Int) (xs[k].s.size : Int)
        generalize max (max (xs[k].n : Int) (xs[k].t.size : Int)) (xs[k].s.size : Int) = M at HX hmx
        have HM := List.getElem_mem hlt
        have HSS := Lib.hid (show xs.take (k + 1) = xs.take k ++ [xs[k]] from List.take_succ_eq_append_getElem hlt)
        generalize xs[k] = x at *
        have bk : (0 : Int) ≤ (k : Int) ∧ (k : Int) < (xs.length : Int) := by omega
        by_cases hb : 512 < M
        · have t1 : decide (512 < M) = true := by simp; omega
          (repeat' ((fail_if_success at_builtin); first | go_values | go_skip | go_guarded | go_step | go_upon))
          go_region
          (repeat' ((fail_if_success at_builtin); first | go_values | go_skip | go_guarded | go_step | go_upon))
          go_ret
          exact ⟨congrArg Ending.returned (dec15Yes (Or.inr ⟨x, HM, HX.out.2 hb⟩)), HB.out.drew⟩
        · have t1 : decide (512 < M) = false := by simp; omega
          (repeat' ((fail_if_success at_builtin); first | go_values | go_skip | go_guarded | go_step | go_upon))
          go_region
          (repeat' ((fail_if_success at_builtin); first | go_values | go_skip | go_guarded | go_step | go_upon))
          go_roundw
          case rel =>
            refine ⟨k + 1, by omega, by go_num, HB.out.drew, ?_⟩
            intro y hm
            rw [HSS.out] at hm
            rcases List.mem_append.1 hm with h1 | h1
            · exact HS.out y h1
            · rw [List.mem_singleton.1 h1]; exact fun h2 => hb (HX.out.1 h2)
          case measure => simp [intOf]; omega
      · (repeat' ((fail_if_success at_builtin); first | go_values | go_skip | go_guarded | go_step | go_upon))
        go_ret
        obtain rfl : k = xs.length := by omega
        have hs := HS.out
        rw [List.take_length] at hs
        refine ⟨congrArg Ending.returned (dec15No ?_), HB.out⟩
        rintro (h1 | ⟨x, hx, h2⟩)
        · exact h40 h1
        · exact hs x hx h2

abbrev OfS (w : World) (z : Nat) (t s : ByteArray) (v : Int) (w' : World) : Prop :=
  (w'.cell? ⟨z, 1, none⟩ = some (.string t) ∧ w'.cell? ⟨z, 2, none⟩ = some (.string s) ∧ w'.cell? ⟨z, 3, none⟩ = some (.int .i64 v)) ∧ Below w.heap.size w w'
theorem ofs_below {w w1 w2 : World} {z : Nat} {t s : ByteArray} {v : Int} (hb : Below w1.heap.size w1 w2) (h : OfS w z t s v w1) : OfS w z t s v w2 :=
  ⟨⟨cell_below hb h.1.1 (Nat.le_refl _), cell_below hb h.1.2.1 (Nat.le_refl _), cell_below hb h.1.2.2 (Nat.le_refl _)⟩, h.2.trans (hb.mono h.2.size)⟩

set_option maxHeartbeats 1000000 in
theorem of15 (a : Option Addr) (n c : Nat) (t s : ByteArray) (v : Int) (w : World) (ht : t.size ≤ 4096) (hs : s.size ≤ 4096) (hv : -9223372036854775808 ≤ v ∧ v ≤ 9223372036854775807) :
    Calls Tryd.prog 51 #[.agg #[.slice a n c, .string t, .string s, .int .i64 v]] w (GotB w (24 + t.size + s.size) (drawn t s v)) := by
  have hl1 : ([] ++ be8 t.size ++ t.data.toList).length = 0 + 8 + t.size := by rw [List.length_append, List.length_append, be8_length, Array.length_toList]; rfl
  have HL1 := Lib.hid hl1; clear hl1
  have hl2 : ([] ++ be8 t.size ++ t.data.toList ++ be8 s.size ++ s.data.toList).length = 0 + 8 + t.size + 8 + s.size := by rw [List.length_append, List.length_append, HL1.out, be8_length, Array.length_toList]; rfl
  have HL2 := Lib.hid hl2; clear hl2
  go_enter Tryd.func51, Tryd.ntmps51
  (repeat' ((fail_if_success at_builtin); first | go_values | go_skip | go_guarded | go_step | go_upon))
  have hS : OfS w w.heap.size t s v (w.alloc (.cells #[.slice a n c, .string t, .string s, .int .i64 v] 56)).drew := by
    have hg := heap_alloc_new w (.cells #[.slice a n c, .string t, .string s, .int .i64 v] 56)
    exact ⟨⟨cell_of_row _ w.heap.size 1 _ _ _ hg, cell_of_row _ w.heap.size 2 _ _ _ hg, cell_of_row _ w.heap.size 3 _ _ _ hg⟩, ((Below.refl _ _).alloc (Nat.le_refl _) _).drew⟩
  refine wp_region_noPanic ?_
  refine wp_region_held_drew (S := OfS w w.heap.size t s v) (by kernel_rfl) ?_ (fun hHeld => ?_)
  · (exact hS)
  refine wpAnyH_take (i := 0) (oi := _) (v := ?_) rfl (by kernel_rfl) (by kernel_rfl) (by kernel_rfl) (fun _ _ _ h => h) (Or.inl ⟨by rfl, ?_⟩) (by assumption) ?_
  rotate_left 1
  · (intro w hSw; (try dsimp only at hSw); go_simp; all_goals (with_reducible rfl))
  try simp only [Act.put, List.setIfInBounds_toArray, List.set_cons_zero, List.set_cons_succ]
  refine wpAnyH_take (i := 1) (oi := _) (v := ?_) rfl (by kernel_rfl) (by kernel_rfl) (by kernel_rfl) (fun _ _ _ h => h) (Or.inl ⟨by rfl, ?_⟩) (by assumption) ?_
  rotate_left 1
  · (intro w hSw; (try dsimp only at hSw); go_simp; all_goals (with_reducible rfl))
  try simp only [Act.put, List.setIfInBounds_toArray, List.set_cons_zero, List.set_cons_succ]
  refine wpAnyH_take (i := 3) (oi := _) (v := ?_) rfl (by kernel_rfl) (by kernel_rfl) (by kernel_rfl) (fun _ _ _ h => h) (Or.inl ⟨by rfl, ?_⟩) (by assumption) ?_
  rotate_left 1
  · (intro w hSw; (try dsimp only at hSw); go_simp; all_goals (with_reducible rfl))
  try simp only [Act.put, List.setIfInBounds_toArray, List.set_cons_zero, List.set_cons_succ]
  refine wpAnyH_take (i := 4) (oi := _) (v := ?_) rfl (by kernel_rfl) (by kernel_rfl) (by kernel_rfl) (fun _ _ _ h => h) (Or.inl ⟨by rfl, ?_⟩) (by assumption) ?_
  rotate_left 1
  · (intro w hSw; (try dsimp only at hSw); go_simp; all_goals (with_reducible rfl))
  try simp only [Act.put, List.setIfInBounds_toArray, List.set_cons_zero, List.set_cons_succ]
  refine wpAnyH_take (i := 6) (oi := _) (v := ?_) rfl (by kernel_rfl) (by kernel_rfl) (by kernel_rfl) (fun _ _ _ h => h) (Or.inl ⟨by rfl, ?_⟩) (by assumption) ?_
  rotate_left 1
  · (intro w hSw; (try dsimp only at hSw); go_simp; all_goals (with_reducible rfl))
  try simp only [Act.put, List.setIfInBounds_toArray, List.set_cons_zero, List.set_cons_succ]
  refine wpAnyH_take (i := 7) (oi := _) (v := ?_) rfl (by kernel_rfl) (by kernel_rfl) (by kernel_rfl) (fun _ _ _ h => h) (Or.inl ⟨by rfl, ?_⟩) (by assumption) ?_
  rotate_left 1
  · (intro w hSw; (try dsimp only at hSw); go_simp; all_goals (with_reducible rfl))
  try simp only [Act.put, List.setIfInBounds_toArray, List.set_cons_zero, List.set_cons_succ]
  refine wpAnyH_ready (rs := [2]) (by kernel_rfl) (by simp) ?_
  refine AllReadyH.cons (o := _) rfl (fun K hK => ?_) ?_
  rotate_left 1
  · exact AllReadyH.nil
  go_simp
  go_at_call 96
  refine (packText none 0 0 [] t _ (RdC.nil _ _) rfl (by decide) (by omega)).mono ?_
  rintro _ wA ⟨a1, c1, rfl, hc1, hr1, hBA, _⟩
  dsimp only
  refine hK.out _ _ ?_ (fun hHeld => ?_)
  · (apply ofs_below; assumption; assumption)
  clear hK K
  try simp only [Act.put, List.setIfInBounds_toArray, List.set_cons_zero, List.set_cons_succ]
  refine wpAnyH_ready (rs := [5]) (by kernel_rfl) (by simp) ?_
  refine AllReadyH.cons (o := _) rfl (fun K hK => ?_) ?_
  rotate_left 1
  · exact AllReadyH.nil
  go_simp
  go_at_call 96
  refine (packText a1 _ c1 _ s wA hr1 HL1.out (by omega) (by omega)).mono ?_
  rintro _ wB ⟨a2, c2, rfl, hc2, hr2, hBB, _⟩
  dsimp only
  refine hK.out _ _ ?_ (fun hHeld => ?_)
  · (apply ofs_below; assumption; assumption)
  clear hK K
  try simp only [Act.put, List.setIfInBounds_toArray, List.set_cons_zero, List.set_cons_succ]
  have hBw := hHeld.2
  refine wpAnyH_ready (rs := [8]) (by kernel_rfl) (by simp) ?_
  refine AllReadyH.cons (o := _) rfl (fun K hK => ?_) ?_
  rotate_left 1
  · exact AllReadyH.nil
  go_simp
  go_at_call 95
  refine (packInt a2 _ c2 _ v wB hr2 HL2.out (by omega) hv).mono ?_
  rintro _ wC ⟨a3, c3, rfl, h3⟩
  dsimp only
  refine hK.out _ _ ?_ (fun hHeld => ?_)
  · (apply ofs_below; exact h3.2.2.1; assumption)
  clear hK K
  try simp only [Act.put, List.setIfInBounds_toArray, List.set_cons_zero, List.set_cons_succ]
  refine wpAnyH_take (i := 9) (oi := _) (v := ?_) rfl (by kernel_rfl) (by kernel_rfl) (by kernel_rfl) (fun _ _ _ h => h) (Or.inl ⟨by rfl, ?_⟩) (by assumption) ?_
  rotate_left 1
  · (intro w hSw; (try dsimp only at hSw); go_simp; all_goals (with_reducible rfl))
  try simp only [Act.put, List.setIfInBounds_toArray, List.set_cons_zero, List.set_cons_succ]
  refine wpAnyH_done (by kernel_rfl) ?_ _
  refine NoPanic.normal ?_
  (repeat' ((fail_if_success at_builtin); first | go_values | go_skip | go_guarded | go_step | go_upon))
  go_ret
  exact gotB_lift h3 hBw

end Go.Proofs.YtdpfemhfmofmlaaDoor
