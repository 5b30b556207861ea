/- The walk of the law PackForm. -/
import Derived.Test.YticpdpnkmeicjaaFormLaws
import Derived.Test.YticpdpnkmeicjaaLaw07a
import Derived.Lib.ConvBytes
import Derived.Deep.Upon
import Derived.Great.BuildSlice
namespace Go.Proofs.Yticpdpnkmeicjaa
open Go.RowKit

theorem owns_typNe {w w' : World} {base e size : Nat} {v : Value} {n : Nat} {xs : List Value} (h : w.ownsRow base e size v n xs) {z : Nat} {c : Array Value} {t : TypeId} {fr : Nat × Nat} (hz : w.heap[z]? = some (.cells c t fr)) (hne : t ≠ e) (hg : w.grownBy w' (some z)) : w'.ownsRow base e size v n xs := by
  refine h.kept hg ?_
  rcases h.2 with ⟨rfl, _⟩ | ⟨g, cap, cur, rfl, _, hh, _⟩
  · exact .inl rfl
  · refine .inr fun e2 => ?_
    cases e2
    rw [hz] at hh
    cases hh
    exact hne rfl

theorem Rd.cellsAt {w : World} {g : Nat} {l : List UInt8} {why : Int} (h : Rd w g l why) : ∃ c, w.heap[g]? = some (.cells c 60 (0, 0)) := by
  obtain ⟨a, c, h0, _⟩ := h.row
  exact ⟨_, h0⟩

theorem owns_rd {w w' : World} {base size : Nat} {v : Value} {n : Nat} {xs : List Value} {g : Nat} {l : List UInt8} {why : Int} (h : w.ownsRow base 5 size v n xs) (hr : Rd w g l why) (hg : w.grownBy w' (some g)) : w'.ownsRow base 5 size v n xs := by
  obtain ⟨c, hc⟩ := hr.cellsAt
  exact owns_typNe h hc (by decide) hg

/-- A Thing of a kind, with nothing in it. -/
def zeroThing (kind : Int) : Array Value := #[.int .i64 kind, .int .i64 0, .slice none 0 0, .int .u8 0, .int .u8 0, .int .u8 0, .int .u8 0, .int .u8 0, .int .u8 0, .int .u8 0, .int .u8 0, .int .u8 0, .int .u8 0, .int .u8 0, .int .u8 0, .int .u8 0, .int .u8 0, .int .u8 0, .int .u8 0, .int .u8 0, .int .u8 0, .int .u8 0, .int .u8 0, .int .u8 0, .int .u8 0, .int .u8 0, .int .u8 0, .int .u8 0, .int .u8 0, .int .u8 0, .int .u8 0, .int .u8 0, .int .u8 0, .int .u8 0, .int .u8 0]
theorem zeroThing_one (kind : Int) : (zeroThing kind).all (·.oneCell') = true := by simp [zeroThing, Value.oneCell']

/-- A Thing lies at z. -/
structure ThAt (w : World) (z : Nat) (T : Thg) : Prop where
  row : ∃ cur, w.heap[z]? = some (.cells cur 38 (0, 0))
  rng : w.rangeAt z 0 T.cells

theorem thAt_row {w : World} {z : Nat} {T : Thg} (h : w.heap[z]? = some (.cells T.cells.toArray 38 (0, 0))) : ThAt w z T :=
  ⟨⟨_, h⟩, fun j v hj => by rw [cell_of_row w z (0 + j) _ _ _ h]; simpa using hj⟩

theorem row_setCells (g : Nat) (t : TypeId) : ∀ (vs : List Value) (o : Nat) (w : World) (cur : Array Value), w.heap[g]? = some (.cells cur t (0, 0)) → (∃ cur', (w.setCells g o vs).heap[g]? = some (.cells cur' t (0, 0))) ∧ w.grownBy (w.setCells g o vs) (some g)
  | [], _, _, cur, h => ⟨⟨cur, h⟩, World.grownBy.refl _ _⟩
  | v :: vs, o, w, cur, h => by
    obtain ⟨h1, h2⟩ := row_setCells g t vs (o + 1) (w.setCell ⟨g, o, none⟩ v) _ (set_at h o v)
    exact ⟨h1, (grown_set (World.grownBy.refl _ _) o v).trans h2⟩

/-- The thing that is laid: by its sum. -/
theorem thAt_sum {w : World} {z : Nat} (s : List UInt8) (hs : s.length = 32) (h : w.heap[z]? = some (.cells (zeroThing 3) 38 (0, 0))) : ThAt (w.setCells z 3 (bvs s)) z ⟨3, 0, none, 0, 0, [], s⟩ := by
  refine ⟨(row_setCells z _ (bvs s) 3 w _ h).1, fun j v hj => ?_⟩
  have hth : w.there z 3 (bvs s).length := fun j hj => by
    rw [bvs_length, hs] at hj
    refine ⟨?_, frozen_of_row w z _ _ _ h⟩
    rw [cell_of_row w z (3 + j) _ _ _ h, Array.getElem?_eq_getElem (show 3 + j < 35 by omega)]
    rfl
  rw [Nat.zero_add]
  unfold Thg.cells at hj
  rw [if_pos hs] at hj
  by_cases h3 : j < 3
  · rw [World.cell?_setCells_out z _ _ _ _ (fun _ _ => Or.inl h3), cell_of_row w z j _ _ _ h, ← hj]
    have : j = 0 ∨ j = 1 ∨ j = 2 := by omega
    rcases this with rfl | rfl | rfl <;> rfl
  · obtain ⟨i, rfl⟩ : ∃ i, j = 3 + i := ⟨j - 3, by omega⟩
    refine World.rangeAt_setCells_same w z 3 (bvs s) hth i v ?_
    rw [Nat.add_comm] at hj
    simpa [thing] using hj

theorem ThAt.block {w w' : World} {z : Nat} {T : Thg} (h : ThAt w z T) (hb : w'.heap[z]? = w.heap[z]?) : ThAt w' z T := by
  obtain ⟨cur, hc⟩ := h.row
  exact ⟨⟨cur, by rw [hb]; exact hc⟩, fun j v hj => by rw [World.cell?_of_block (w := w) hb]; exact h.rng j v hj⟩

/-- '[]Thing{t}'. -/
theorem build_thing {ops : Array Oper} {rest : List Oper} {o : Oper} {a : Act} {w : World} {Q : Exit → Act → World → Prop} (hg : o.guard = none) (x : Operand) (ho : o.op = .buildSlice 46 1 #[(0, x)]) (T : Thg) (hx : a.eval x = .agg T.cells.toArray)
    (h : ∀ w1, w1.heap[w.heap.size]? = some (.cells T.cells.toArray 38 (0, 0)) → Below w.heap.size w w1 → wpList Try.prog ops Q rest (a.put o.dst (.slice (some ⟨w.heap.size, 0, none⟩) 1 1)) w1) : wpList Try.prog ops Q (o :: rest) a w := by
  have hsz : (Try.prog.info? 38).map (·.size) = some 35 := by kernel_rfl
  have hz : ((Try.prog.info? 38).bind (·.zero)).isSome = true := by kernel_rfl
  cases hie : Try.prog.info? 38 with
  | none => simp [hie] at hsz
  | some ie =>
    simp only [hie, Option.map_some, Option.some.injEq, Option.bind_some] at hsz hz
    obtain ⟨zv, hzz⟩ := Option.isSome_iff_exists.1 hz
    refine wpList_buildSlice hg 46 38 1 #[(0, x)] ho T.cells.toArray ie zv Try.underlying46 hie hzz (by rw [hsz]; omega) (by rw [hsz]; omega) ?_ ?_
    · have hp : ((#[(0, x)] : Array (Nat × Operand)).map fun (i, y) => (i, a.eval y)).toList = (([Value.agg T.cells.toArray] : List Value).zipIdx 0).map fun y => (y.2, y.1) := by
        simp [hx]
      have hl := Thg.cells_length T
      have hf := Great.fill_whole (s := 35) (by omega) [Value.agg T.cells.toArray] ((Array.range (1 * 35)).map (zv.cells[· % zv.cells.size]!)) (fun v hv => by rw [List.mem_singleton.1 hv]; show T.cells.toArray.size = 35; rw [List.size_toArray, hl]) (by simp)
      rw [hp, hsz]
      refine hf.trans ?_
      simp [Value.cells]
    · exact h _ (heap_alloc_new w _) ((Below.refl _ _).alloc (Nat.le_refl _) _)

theorem things_one {w : World} {g : Nat} {T : Thg} (h : w.heap[g]? = some (.cells T.cells.toArray 38 (0, 0))) (ht : T.Ok w) : Things w (some ⟨g, 0, none⟩) [T] := by
  have e : [T].flatMap Thg.cells = T.cells := by simp
  refine ⟨⟨fun i hi => ?_⟩, fun t hm => by rw [List.mem_singleton.1 hm]; exact ht⟩
  rw [e] at hi
  refine ⟨g, 0, rfl, ?_⟩
  rw [cell_of_row w g (0 + i) _ _ _ h]
  simp only [e, Nat.zero_add, List.getElem?_toArray]
  first | done | exact List.getElem?_eq_getElem hi

theorem take_form (l R' en : List UInt8) (j : Nat) (h : l.drop j = en ++ R') : l.take (j + en.length) = l.take j ++ en ∧ l.drop (j + en.length) = R' := by
  constructor
  · rw [List.take_add, h, List.take_append_of_le_length (Nat.le_refl _), List.take_of_length_le (Nat.le_refl _)]
  · rw [← List.drop_drop, h, List.drop_append_of_le_length (Nat.le_refl _), List.drop_of_length_le (Nat.le_refl _), List.nil_append]

theorem someT_num {w' : World} {l : List UInt8} {e : Ending} (h : SomeT w' l e) {n : Nat} (hn : l.length = n) : ∃ a c, e = .returned (.slice a n c) ∧ n ≤ c ∧ RdB w' a l ∧ Typ w' 5 a n := by subst hn; exact h

/-- '[]byte(s)'. -/
theorem run_bytes (w : World) (l : List UInt8) : ∃ cap w', (convert 9 22 (.string ⟨l.toArray⟩)).run Try.prog w = .ok (.slice (some ⟨w.heap.size, 0, none⟩) l.length cap) w' ∧ Below w.heap.size w w' ∧ RdB w' (some ⟨w.heap.size, 0, none⟩) l ∧ Typ w' 5 (some ⟨w.heap.size, 0, none⟩) l.length := by
  have hc := Lib.run_convert_string_bytes (P := Try.prog) w 9 22 5 ⟨l.toArray⟩ Try.underlying9 Try.underlying22 Try.underlying5
  have hs : (⟨l.toArray⟩ : ByteArray).size = l.length := by show l.toArray.size = _; simp
  refine ⟨_, _, hc.trans (by rw [hs]), ?_, ⟨fun i hi => ?_⟩, fun _ => ⟨_, 0, _, _, rfl, Lib.bytesWorld_at_new w _ _⟩⟩
  · exact ⟨rfl, rfl, rfl, by rw [Lib.bytesWorld_size]; omega, fun i hi => Lib.bytesWorld_at_old w _ _ i hi⟩
  · rw [bvs_length] at hi
    refine ⟨w.heap.size, 0, rfl, ?_⟩
    rw [Nat.zero_add, Lib.bytesWorld_cell w _ _ i (by rw [hs]; exact hi)]
    simp [bvs, bv, List.getD, hi]

/-- How the loop stands: j bytes were read and laid again. -/
structure FormRel (g m n : Nat) (l : List UInt8) (w : World) (v i : Value) (wr : World) : Prop where
  out : ∃ (k j : Nat) (R : List UInt8), k ≤ n ∧ k ≤ 80 ∧ i = .int .i64 k ∧ Below w.heap.size w wr ∧ Rd wr g R 0 ∧ j + R.length = m ∧ wr.ownsRow w.heap.size 5 1 v j (bvs (l.take j)) ∧ R = l.drop j

set_option maxHeartbeats 4000000 in
set_option maxRecDepth 10000 in
theorem packForm_walk (a a2 : Option Addr) (m c n c2 : Nat) (l : List UInt8) (ts : List Ask) (w : World) (hr : RdB w a l) (em : l.length = m) (hmc : m ≤ c) (hm63 : m ≤ 9223372036854775807) (h : RdC w a2 (ts.flatMap Ask.cells)) (hok : ∀ t ∈ ts, t.Ok) (en : ts.length = n) (hn63 : n ≤ 9223372036854775807) :
    Calls Try.prog 7 #[.slice a m c, .slice a2 n c2] w fun e w' => e = .returned (.bool true) ∧ Below w.heap.size w w' := by
  by_cases hbig : 4096 < m
  · go_enter Try.func7, Try.ntmps7
    (repeat' ((fail_if_success at_builtin); first | go_values | go_skip | go_guarded | go_step | go_upon))
    refine (works07 w).mono ?_
    rintro _ w1 ⟨rfl, hB1⟩
    dsimp only
    (repeat' ((fail_if_success at_builtin); first | go_values | go_skip | go_guarded | go_step | go_upon))
    go_ret
    exact ⟨rfl, hB1⟩
  · go_enter Try.func7, Try.ntmps7
    (repeat' ((fail_if_success at_builtin); first | go_values | go_skip | go_guarded | go_step | go_upon))
    refine (packRead a m c l w hr em (by omega)).mono ?_
    rintro _ w1 ⟨g, rfl, hB1, hg1, hR1⟩
    dsimp only
    (repeat' ((fail_if_success at_builtin); first | go_values | go_skip | go_guarded | go_step | go_upon))
    have EM := Lib.hid em; clear em
    go_loopw [6, 7] (fun v i wr => FormRel g m n l w v i wr) (fun _ i _ => n - (intOf i).toNat)
    case atStart => exact ⟨⟨0, 0, l, by omega, by omega, rfl, hB1, hR1, by rw [Nat.zero_add]; exact EM.out, World.ownsRow_nil _ _ _ _, rfl⟩⟩
    case round =>
      obtain ⟨⟨k, j, R, hk, hk80, rfl, hB, hR, hjm, hO, hRl⟩⟩ := hrel
      have HRL := Lib.hid hRl; clear hRl
      obtain ⟨a6, c6, rfl, hc6, hm6, _⟩ := owns_slice hO
      have HTJ := Lib.hid (show (l.take j).length = j by have := EM.out; rw [List.length_take]; omega)
      by_cases hlt : k < n ∧ k < 80
      · obtain ⟨hlt, hlt80⟩ := hlt
        subst en
        obtain ⟨b, off, rfl, hc0, hc1⟩ := ask_at (h.below hB (Nat.le_refl _)) k hlt
        have hA := hok ts[k] (List.getElem_mem hlt)
        have hp := pick_lt ts[k].kind 5 (by omega)
        have hsp : pick ts[k].kind 5 = 0 ∨ pick ts[k].kind 5 = 1 ∨ pick ts[k].kind 5 = 2 ∨ pick ts[k].kind 5 = 3 ∨ pick ts[k].kind 5 = 4 := by omega
        have hA1 := hA.1
        have hA2 := hA.2
        have hbs : b < wr.heap.size := World.block_lt_of_cell? wr _ hc0
        obtain ⟨w2, hw2⟩ : ∃ w2, wr.alloc (.cells #[.int .i64 0, .int .i64 3, .int .i64 0, .int .i64 1, .int .i64 2] 3) = w2 := ⟨_, rfl⟩
        have hg2 : w2.heap[wr.heap.size]? = some (.cells #[.int .i64 0, .int .i64 3, .int .i64 0, .int .i64 1, .int .i64 2] 3 (0, 0)) := by rw [← hw2]; exact heap_alloc_new wr _
        have hB2 : Below wr.heap.size wr w2 := by rw [← hw2]; exact (Below.refl _ _).alloc (Nat.le_refl _) _
        have d0 : w2.cell? ⟨b, off + k * 2, none⟩ = some (.int .i64 ts[k].kind) := by rw [hB2.cell (p := ⟨b, off + k * 2, none⟩) hbs]; exact hc0
        have d1 : w2.cell? ⟨b, off + k * 2 + 1, none⟩ = some (.int .i64 ts[k].most) := by rw [hB2.cell (p := ⟨b, off + k * 2 + 1, none⟩) hbs]; exact hc1
        have l0 := cell_of_row w2 wr.heap.size 0 _ _ _ hg2
        have l1 := cell_of_row w2 wr.heap.size 1 _ _ _ hg2
        have l2 := cell_of_row w2 wr.heap.size 2 _ _ _ hg2
        have l3 := cell_of_row w2 wr.heap.size 3 _ _ _ hg2
        have l4 := cell_of_row w2 wr.heap.size 4 _ _ _ hg2
        have hi35 : ∀ q : Int, (Try.prog.info? 38).map (·.size) = some (zeroThing q).size := fun q => by show _ = some 35; kernel_rfl
        have hbs2 : b < w2.heap.size := Nat.lt_of_lt_of_le hbs hB2.size
        have hlt2 := (Array.getElem?_eq_some_iff.1 hg2).1
        have HG2 := Lib.hid hg2; clear hg2
        clear hc0 hc1
        (repeat' ((fail_if_success at_builtin); first | go_values | go_skip | go_guarded | go_step | go_upon))
        refine (pickAny ts[k].kind 5 w2 hA1 (by omega)).mono ?_
        rintro _ w2' ⟨rfl, rfl⟩
        dsimp only
        rcases hsp with hk0 | hk0 | hk0 | hk0 | hk0
        · rw [hk0]
          (repeat' ((fail_if_success at_builtin); first | ((refine wpList_store_fresh (w := w2) rfl 38 _ _ rfl _ 38 rfl (zeroThing 0) rfl ?_ ?_ (zeroThing_one _) ?_; exact hi35 _; rfl; intro w3 hg3 hB3; have d0' : w3.cell? ⟨b, off + k * 2, none⟩ = some (.int .i64 ts[k].kind) := (by rw [hB3.cell (p := ⟨b, off + k * 2, none⟩) hbs2]; exact d0); have d1' : w3.cell? ⟨b, off + k * 2 + 1, none⟩ = some (.int .i64 ts[k].most) := (by rw [hB3.cell (p := ⟨b, off + k * 2 + 1, none⟩) hbs2]; exact d1); have HG3 := Lib.hid hg3; clear hg3)) | go_values | go_skip | go_guarded | go_step | go_upon))
          refine (pickAny ts[k].kind 5 w3 hA1 (by omega)).mono ?_
          rintro _ w3' ⟨rfl, rfl⟩
          dsimp only
          rw [hk0]
          have hg3 := HG3.out
          have hz3 : w2.heap.size < w3.heap.size := (Array.getElem?_eq_some_iff.1 hg3).1
          have hB23 : Below wr.heap.size wr w3 := hB2.trans (hB3.mono hB2.size)
          have hR3 : Rd w3 g R 0 := hR.below hB23 (Nat.le_refl _)
          have hO3 := owns_below hO hB23 (Nat.le_refl _)
          have hB3w : Below w.heap.size w w3 := hB.trans (hB23.mono hB.size)
          have hgz : w2.heap.size ≠ g := by have := hR.lt; have := hB2.size; omega
          (repeat' ((fail_if_success at_builtin); first | go_values | go_skip | go_guarded | go_step | go_upon))
          have hform := int_form R
          have hvb := rsInt_bd R 0
          have hX := rdInt g R 0 w3 hR3
          generalize rsInt R 0 = r at *
          obtain ⟨v, R', y⟩ := r
          simp only at hform hvb hX
          have HX := Lib.hid hX; clear hX
          have HFO := Lib.hid hform; clear hform
          refine (HX.out).mono ?_
          rintro _ w4 ⟨rfl, hg4, hR4⟩
          dsimp only
          have hform := HFO.out
          have hO4 := owns_rd hO3 hR3 hg4
          have hB4w : Below w.heap.size w w4 := hB3w.grown hg4 hB3w.size (fun k e => by cases e; exact hg1)
          have hg4z : w4.heap[w2.heap.size]? = some (.cells (zeroThing 0) 38 (0, 0)) := (hg4.block _ hz3 (by intro e; cases e; exact hgz rfl)).trans hg3
          have hzw : w.heap.size ≤ w2.heap.size := Nat.le_trans hB.size hB2.size
          have f1 := frozen_of_row w4 w2.heap.size 1 _ _ hg4z
          have e1 : w4.cell? ⟨w2.heap.size, 1, none⟩ = some (.int .i64 0) := (cell_of_row w4 w2.heap.size 1 _ _ _ hg4z).trans rfl
          (repeat' ((fail_if_success at_builtin); first | go_values | go_skip | go_guarded | go_step | go_upon))
          obtain ⟨w5, hw5⟩ : ∃ w5, w4.setCell ⟨w2.heap.size, 1, none⟩ (.int .i64 v) = w5 := ⟨_, rfl⟩
          have hG5 : w4.grownBy w5 (some w2.heap.size) := by rw [← hw5]; exact grown_set (World.grownBy.refl _ _) 1 _
          have hT5 : ThAt w5 w2.heap.size ⟨0, v, none, 0, 0, [], List.replicate 32 0⟩ := by rw [← hw5]; exact thAt_row (set_at hg4z 1 _)
          rw [hw5]
          clear hw5
          have hok5 : Thg.Ok w5 ⟨0, v, none, 0, 0, [], List.replicate 32 0⟩ := ⟨hvb, by dsimp only; omega, rfl, by dsimp only; omega, RdC.nil _ _, rfl⟩
          have hR5 : Rd w5 g R' y := hR4.typNe hg4z (by decide) (by decide) hG5
          have hO5 := owns_typNe hO4 hg4z (by decide) hG5
          have hB5w : Below w.heap.size w w5 := hB4w.grown hG5 hB4w.size (fun k e => by cases e; exact hzw)
          have hBad := rdBad g R' y w5 hR5
          obtain ⟨bd, hbd⟩ : ∃ bd, (y != 0) = bd := ⟨_, rfl⟩
          rw [hbd] at hBad
          have HBAD := Lib.hid hBad; clear hBad
          refine (HBAD.out).mono ?_
          rintro _ w5' ⟨rfl, rfl⟩
          dsimp only
          cases bd with
          | false =>
            have hy : y = 0 := by simpa using hbd
            subst hy
            have hfm : l.drop j = (⟨0, v, none, 0, 0, [], List.replicate 32 0⟩ : Thg).enc ++ R' := by rw [← HRL.out]; exact (hform rfl).trans (by rfl)
            obtain ⟨ft, fd⟩ := take_form l R' _ j hfm
            have hle : j + (⟨0, v, none, 0, 0, [], List.replicate 32 0⟩ : Thg).enc.length ≤ m := by
              have h1 := congrArg List.length hfm
              rw [List.length_drop, List.length_append] at h1
              have h2 := EM.out
              omega
            have hRl' : j + (⟨0, v, none, 0, 0, [], List.replicate 32 0⟩ : Thg).enc.length + R'.length = m := by
              have h1 := congrArg List.length hfm
              rw [List.length_drop, List.length_append] at h1
              have h2 := EM.out
              omega
            obtain ⟨TT, hTT⟩ : ∃ TT, (⟨0, v, none, 0, 0, [], List.replicate 32 0⟩ : Thg) = TT := ⟨_, rfl⟩
            rw [hTT] at hT5 hok5 hle hRl' ft fd
            obtain ⟨el, hel⟩ : ∃ el, TT.enc.length = el := ⟨_, rfl⟩
            rw [hel] at hle hRl' ft fd
            have HEL := Lib.hid hel; clear hel
            have HFT := Lib.hid ft; clear ft
            have HFD := Lib.hid fd; clear fd
            have hi1 : (Try.prog.info? 38).map (·.size) = some TT.cells.length := by rw [Thg.cells_length]; kernel_rfl
            have HI := Lib.hid hi1; clear hi1
            have HTR := Lib.hid hT5.rng
            have HFM := Lib.hid hfm; clear hfm
            have HTT := Lib.hid hTT; clear hTT
            (repeat' ((fail_if_success at_builtin); first | (first | (with_reducible refine wpList_load_mid rfl 38 _ rfl w2.heap.size 0 rfl TT.cells _ HTR.out Try.underlying38 rfl HI.out ?_) | (refine build_thing rfl _ rfl TT rfl ?_; intro w6 hg6 hB6; have HG6 := Lib.hid hg6; clear hg6)) | go_values | go_skip | go_guarded | go_step | go_upon))
            have hok6 : TT.Ok w6 := hok5.below hB6 (Nat.le_refl _)
            refine (laidThings w.heap.size (.slice a6 j c6) j (l.take j) _ 1 1 [TT] w6 (owns_below hO5 hB6 (Nat.le_refl _)) (Nat.le_trans hB5w.size hB6.size) HTJ.out (things_one HG6.out hok6) rfl (by have := HEL.out; rw [List.flatMap_singleton]; omega) (by omega)).mono ?_
            rintro _ w7 ⟨a7, c7, rfl, hl7, hc7, hm7, hB7, hO7⟩
            dsimp only
            rw [List.flatMap_singleton, HEL.out] at hO7 hc7 hl7
            rw [List.flatMap_singleton, HEL.out]
            clear hl7
            have hB6w : Below w.heap.size w w6 := hB5w.trans (hB6.mono hB5w.size)
            have hB7w : Below w.heap.size w w7 := hB6w.trans (hB7.mono hB6w.size)
            have hR7 : Rd w7 g R' 0 := (hR5.below hB6 (Nat.le_refl _)).below hB7 (Nat.le_refl _)
            have HO7 := Lib.hid hO7; clear hO7
            have HRL' := Lib.hid hRl'; clear hRl'
            have HJM := Lib.hid hjm; clear hjm
            clear hform hT5 hok5 hok6 hO5 hO4 hO3 hO hbd
            (repeat' ((fail_if_success at_builtin); first | go_values | go_skip | go_guarded | go_step | go_upon))
            go_roundw
            case rel => exact ⟨⟨k + 1, j + el, R', by omega, by omega, by go_num, hB7w, hR7, HRL'.out, by rw [HFT.out]; exact HO7.out, HFD.out.symm⟩⟩
            case measure => simp [intOf]; omega
          | true =>
            have hr5 : RdB w5 a (l.take j) := (hr.below hB5w (Nat.le_refl _)).takeB j
            have hrO := rdc_of_owns hO5
            clear hform hbd hT5 hok5
            (repeat' ((fail_if_success at_builtin); first | go_values | go_skip | go_guarded | go_step | go_upon))
            refine (HBAD.out).mono ?_
            rintro _ w6 ⟨rfl, rfl⟩
            dsimp only
            (repeat' ((fail_if_success at_builtin); first | go_values | go_skip | go_guarded | go_step | go_upon))
            refine (same_yes hrO hr5 HTJ.out HTJ.out (by omega) rfl).mono ?_
            rintro _ w6 ⟨rfl, hs6⟩
            dsimp only
            (repeat' ((fail_if_success at_builtin); first | go_values | go_skip | go_guarded | go_step | go_upon))
            have hB6w : Below w.heap.size w w6 := hB5w.trans (hs6.below _)
            refine (works07 w6).mono ?_
            rintro _ w7 ⟨rfl, hB7⟩
            dsimp only
            (repeat' ((fail_if_success at_builtin); first | go_values | go_skip | go_guarded | go_step | go_upon))
            go_ret
            exact ⟨rfl, hB6w.trans (hB7.mono hB6w.size)⟩
        · rw [hk0]
          (repeat' ((fail_if_success at_builtin); first | ((refine wpList_store_fresh (w := w2) rfl 38 _ _ rfl _ 38 rfl (zeroThing 3) rfl ?_ ?_ (zeroThing_one _) ?_; exact hi35 _; rfl; intro w3 hg3 hB3; have d0' : w3.cell? ⟨b, off + k * 2, none⟩ = some (.int .i64 ts[k].kind) := (by rw [hB3.cell (p := ⟨b, off + k * 2, none⟩) hbs2]; exact d0); have d1' : w3.cell? ⟨b, off + k * 2 + 1, none⟩ = some (.int .i64 ts[k].most) := (by rw [hB3.cell (p := ⟨b, off + k * 2 + 1, none⟩) hbs2]; exact d1); have HG3 := Lib.hid hg3; clear hg3)) | go_values | go_skip | go_guarded | go_step | go_upon))
          refine (pickAny ts[k].kind 5 w3 hA1 (by omega)).mono ?_
          rintro _ w3' ⟨rfl, rfl⟩
          dsimp only
          rw [hk0]
          have hg3 := HG3.out
          have hz3 : w2.heap.size < w3.heap.size := (Array.getElem?_eq_some_iff.1 hg3).1
          have hB23 : Below wr.heap.size wr w3 := hB2.trans (hB3.mono hB2.size)
          have hR3 : Rd w3 g R 0 := hR.below hB23 (Nat.le_refl _)
          have hO3 := owns_below hO hB23 (Nat.le_refl _)
          have hB3w : Below w.heap.size w w3 := hB.trans (hB23.mono hB.size)
          have hgz : w2.heap.size ≠ g := by have := hR.lt; have := hB2.size; omega
          (repeat' ((fail_if_success at_builtin); first | go_values | go_skip | go_guarded | go_step | go_upon))
          have hform := rsSum_form R
          have hvl := rsSum_length R 0
          have hX := rdSum g R 0 w3 hR3
          generalize rsSum R 0 = r at *
          obtain ⟨s, R', y⟩ := r
          simp only at hform hvl hX
          have HX := Lib.hid hX; clear hX
          have HFO := Lib.hid hform; clear hform
          refine (HX.out).mono ?_
          rintro _ w4 ⟨rfl, hg4, hR4⟩
          dsimp only
          have hform := HFO.out
          have hO4 := owns_rd hO3 hR3 hg4
          have hB4w : Below w.heap.size w w4 := hB3w.grown hg4 hB3w.size (fun k e => by cases e; exact hg1)
          have hg4z : w4.heap[w2.heap.size]? = some (.cells (zeroThing 3) 38 (0, 0)) := (hg4.block _ hz3 (by intro e; cases e; exact hgz rfl)).trans hg3
          have hzw : w.heap.size ≤ w2.heap.size := Nat.le_trans hB.size hB2.size
          have hth : w4.there w2.heap.size 3 (bvs s).toArray.size := fun j hj => by
            rw [List.size_toArray, bvs_length, hvl] at hj
            refine ⟨?_, frozen_of_row w4 _ _ _ _ hg4z⟩
            rw [cell_of_row w4 w2.heap.size (3 + j) _ _ _ hg4z, Array.getElem?_eq_getElem (show 3 + j < 35 by omega)]
            rfl
          have hi36 : (Try.prog.info? 36).map (·.size) = some (bvs s).toArray.size := by rw [List.size_toArray, bvs_length, hvl]; kernel_rfl
          have hall := all_oneCell_toArray (bvs_oneCell s)
          have HTH := Lib.hid hth; clear hth
          have HI36 := Lib.hid hi36; clear hi36
          obtain ⟨w5, hw5⟩ : ∃ w5, w4.setCells w2.heap.size 3 (bvs s) = w5 := ⟨_, rfl⟩
          have HW5 := Lib.hid hw5
          (repeat' ((fail_if_success at_builtin); first | ((with_reducible refine wpList_store_mid rfl 36 _ _ rfl w2.heap.size 3 (bvs s).toArray rfl rfl HTH.out HI36.out hall ?_; rw [HW5.out])) | go_values | go_skip | go_guarded | go_step | go_upon))
          have hG5 : w4.grownBy w5 (some w2.heap.size) := by rw [← HW5.out]; exact (row_setCells _ _ (bvs s) 3 w4 _ hg4z).2
          have hT5 : ThAt w5 w2.heap.size ⟨3, 0, none, 0, 0, [], s⟩ := by rw [← HW5.out]; exact thAt_sum s hvl hg4z
          clear hw5
          have hok5 : Thg.Ok w5 ⟨3, 0, none, 0, 0, [], s⟩ := ⟨by dsimp only; omega, by dsimp only; omega, rfl, by dsimp only; omega, RdC.nil _ _, hvl⟩
          have hR5 : Rd w5 g R' y := hR4.typNe hg4z (by decide) (by decide) hG5
          have hO5 := owns_typNe hO4 hg4z (by decide) hG5
          have hB5w : Below w.heap.size w w5 := hB4w.grown hG5 hB4w.size (fun k e => by cases e; exact hzw)
          have hBad := rdBad g R' y w5 hR5
          obtain ⟨bd, hbd⟩ : ∃ bd, (y != 0) = bd := ⟨_, rfl⟩
          rw [hbd] at hBad
          have HBAD := Lib.hid hBad; clear hBad
          refine (HBAD.out).mono ?_
          rintro _ w5' ⟨rfl, rfl⟩
          dsimp only
          cases bd with
          | false =>
            have hy : y = 0 := by simpa using hbd
            subst hy
            have hfm : l.drop j = (⟨3, 0, none, 0, 0, [], s⟩ : Thg).enc ++ R' := by rw [← HRL.out]; exact (hform rfl).trans (by rfl)
            obtain ⟨ft, fd⟩ := take_form l R' _ j hfm
            have hle : j + (⟨3, 0, none, 0, 0, [], s⟩ : Thg).enc.length ≤ m := by
              have h1 := congrArg List.length hfm
              rw [List.length_drop, List.length_append] at h1
              have h2 := EM.out
              omega
            have hRl' : j + (⟨3, 0, none, 0, 0, [], s⟩ : Thg).enc.length + R'.length = m := by
              have h1 := congrArg List.length hfm
              rw [List.length_drop, List.length_append] at h1
              have h2 := EM.out
              omega
            obtain ⟨TT, hTT⟩ : ∃ TT, (⟨3, 0, none, 0, 0, [], s⟩ : Thg) = TT := ⟨_, rfl⟩
            rw [hTT] at hT5 hok5 hle hRl' ft fd
            obtain ⟨el, hel⟩ : ∃ el, TT.enc.length = el := ⟨_, rfl⟩
            rw [hel] at hle hRl' ft fd
            have HEL := Lib.hid hel; clear hel
            have HFT := Lib.hid ft; clear ft
            have HFD := Lib.hid fd; clear fd
            have hi1 : (Try.prog.info? 38).map (·.size) = some TT.cells.length := by rw [Thg.cells_length]; kernel_rfl
            have HI := Lib.hid hi1; clear hi1
            have HTR := Lib.hid hT5.rng
            have HFM := Lib.hid hfm; clear hfm
            have HTT := Lib.hid hTT; clear hTT
            (repeat' ((fail_if_success at_builtin); first | (first | (with_reducible refine wpList_load_mid rfl 38 _ rfl w2.heap.size 0 rfl TT.cells _ HTR.out Try.underlying38 rfl HI.out ?_) | (refine build_thing rfl _ rfl TT rfl ?_; intro w6 hg6 hB6; have HG6 := Lib.hid hg6; clear hg6)) | go_values | go_skip | go_guarded | go_step | go_upon))
            have hok6 : TT.Ok w6 := hok5.below hB6 (Nat.le_refl _)
            refine (laidThings w.heap.size (.slice a6 j c6) j (l.take j) _ 1 1 [TT] w6 (owns_below hO5 hB6 (Nat.le_refl _)) (Nat.le_trans hB5w.size hB6.size) HTJ.out (things_one HG6.out hok6) rfl (by have := HEL.out; rw [List.flatMap_singleton]; omega) (by omega)).mono ?_
            rintro _ w7 ⟨a7, c7, rfl, hl7, hc7, hm7, hB7, hO7⟩
            dsimp only
            rw [List.flatMap_singleton, HEL.out] at hO7 hc7 hl7
            rw [List.flatMap_singleton, HEL.out]
            clear hl7
            have hB6w : Below w.heap.size w w6 := hB5w.trans (hB6.mono hB5w.size)
            have hB7w : Below w.heap.size w w7 := hB6w.trans (hB7.mono hB6w.size)
            have hR7 : Rd w7 g R' 0 := (hR5.below hB6 (Nat.le_refl _)).below hB7 (Nat.le_refl _)
            have HO7 := Lib.hid hO7; clear hO7
            have HRL' := Lib.hid hRl'; clear hRl'
            have HJM := Lib.hid hjm; clear hjm
            clear hform hT5 hok5 hok6 hO5 hO4 hO3 hO hbd
            (repeat' ((fail_if_success at_builtin); first | go_values | go_skip | go_guarded | go_step | go_upon))
            go_roundw
            case rel => exact ⟨⟨k + 1, j + el, R', by omega, by omega, by go_num, hB7w, hR7, HRL'.out, by rw [HFT.out]; exact HO7.out, HFD.out.symm⟩⟩
            case measure => simp [intOf]; omega
          | true =>
            have hr5 : RdB w5 a (l.take j) := (hr.below hB5w (Nat.le_refl _)).takeB j
            have hrO := rdc_of_owns hO5
            clear hform hbd hT5 hok5
            (repeat' ((fail_if_success at_builtin); first | go_values | go_skip | go_guarded | go_step | go_upon))
            refine (HBAD.out).mono ?_
            rintro _ w6 ⟨rfl, rfl⟩
            dsimp only
            (repeat' ((fail_if_success at_builtin); first | go_values | go_skip | go_guarded | go_step | go_upon))
            refine (same_yes hrO hr5 HTJ.out HTJ.out (by omega) rfl).mono ?_
            rintro _ w6 ⟨rfl, hs6⟩
            dsimp only
            (repeat' ((fail_if_success at_builtin); first | go_values | go_skip | go_guarded | go_step | go_upon))
            have hB6w : Below w.heap.size w w6 := hB5w.trans (hs6.below _)
            refine (works07 w6).mono ?_
            rintro _ w7 ⟨rfl, hB7⟩
            dsimp only
            (repeat' ((fail_if_success at_builtin); first | go_values | go_skip | go_guarded | go_step | go_upon))
            go_ret
            exact ⟨rfl, hB6w.trans (hB7.mono hB6w.size)⟩
        · rw [hk0]
          (repeat' ((fail_if_success at_builtin); first | ((refine wpList_store_fresh (w := w2) rfl 38 _ _ rfl _ 38 rfl (zeroThing 0) rfl ?_ ?_ (zeroThing_one _) ?_; exact hi35 _; rfl; intro w3 hg3 hB3; have d0' : w3.cell? ⟨b, off + k * 2, none⟩ = some (.int .i64 ts[k].kind) := (by rw [hB3.cell (p := ⟨b, off + k * 2, none⟩) hbs2]; exact d0); have d1' : w3.cell? ⟨b, off + k * 2 + 1, none⟩ = some (.int .i64 ts[k].most) := (by rw [hB3.cell (p := ⟨b, off + k * 2 + 1, none⟩) hbs2]; exact d1); have HG3 := Lib.hid hg3; clear hg3)) | go_values | go_skip | go_guarded | go_step | go_upon))
          refine (pickAny ts[k].kind 5 w3 hA1 (by omega)).mono ?_
          rintro _ w3' ⟨rfl, rfl⟩
          dsimp only
          rw [hk0]
          have hg3 := HG3.out
          have hz3 : w2.heap.size < w3.heap.size := (Array.getElem?_eq_some_iff.1 hg3).1
          have hB23 : Below wr.heap.size wr w3 := hB2.trans (hB3.mono hB2.size)
          have hR3 : Rd w3 g R 0 := hR.below hB23 (Nat.le_refl _)
          have hO3 := owns_below hO hB23 (Nat.le_refl _)
          have hB3w : Below w.heap.size w w3 := hB.trans (hB23.mono hB.size)
          have hgz : w2.heap.size ≠ g := by have := hR.lt; have := hB2.size; omega
          (repeat' ((fail_if_success at_builtin); first | go_values | go_skip | go_guarded | go_step | go_upon))
          have hform := count_form ts[k].most R
          have hvb := rsCount_bd ts[k].most R 0
          have hX := rdCount g ts[k].most R 0 w3 hR3
          generalize rsCount ts[k].most R 0 = r at *
          obtain ⟨v, R', y⟩ := r
          simp only at hform hvb hX
          have HX := Lib.hid hX; clear hX
          have HFO := Lib.hid hform; clear hform
          refine (HX.out).mono ?_
          rintro _ w4 ⟨rfl, hg4, hR4⟩
          dsimp only
          have hform := HFO.out
          have hO4 := owns_rd hO3 hR3 hg4
          have hB4w : Below w.heap.size w w4 := hB3w.grown hg4 hB3w.size (fun k e => by cases e; exact hg1)
          have hg4z : w4.heap[w2.heap.size]? = some (.cells (zeroThing 0) 38 (0, 0)) := (hg4.block _ hz3 (by intro e; cases e; exact hgz rfl)).trans hg3
          have hzw : w.heap.size ≤ w2.heap.size := Nat.le_trans hB.size hB2.size
          have f1 := frozen_of_row w4 w2.heap.size 1 _ _ hg4z
          have e1 : w4.cell? ⟨w2.heap.size, 1, none⟩ = some (.int .i64 0) := (cell_of_row w4 w2.heap.size 1 _ _ _ hg4z).trans rfl
          (repeat' ((fail_if_success at_builtin); first | go_values | go_skip | go_guarded | go_step | go_upon))
          obtain ⟨w5, hw5⟩ : ∃ w5, w4.setCell ⟨w2.heap.size, 1, none⟩ (.int .i64 v) = w5 := ⟨_, rfl⟩
          have hG5 : w4.grownBy w5 (some w2.heap.size) := by rw [← hw5]; exact grown_set (World.grownBy.refl _ _) 1 _
          have hT5 : ThAt w5 w2.heap.size ⟨0, v, none, 0, 0, [], List.replicate 32 0⟩ := by rw [← hw5]; exact thAt_row (set_at hg4z 1 _)
          rw [hw5]
          clear hw5
          have hok5 : Thg.Ok w5 ⟨0, v, none, 0, 0, [], List.replicate 32 0⟩ := ⟨hvb, by dsimp only; omega, rfl, by dsimp only; omega, RdC.nil _ _, rfl⟩
          have hR5 : Rd w5 g R' y := hR4.typNe hg4z (by decide) (by decide) hG5
          have hO5 := owns_typNe hO4 hg4z (by decide) hG5
          have hB5w : Below w.heap.size w w5 := hB4w.grown hG5 hB4w.size (fun k e => by cases e; exact hzw)
          have hBad := rdBad g R' y w5 hR5
          obtain ⟨bd, hbd⟩ : ∃ bd, (y != 0) = bd := ⟨_, rfl⟩
          rw [hbd] at hBad
          have HBAD := Lib.hid hBad; clear hBad
          refine (HBAD.out).mono ?_
          rintro _ w5' ⟨rfl, rfl⟩
          dsimp only
          cases bd with
          | false =>
            have hy : y = 0 := by simpa using hbd
            subst hy
            have hfm : l.drop j = (⟨0, v, none, 0, 0, [], List.replicate 32 0⟩ : Thg).enc ++ R' := by rw [← HRL.out]; exact (hform rfl).trans (by rfl)
            obtain ⟨ft, fd⟩ := take_form l R' _ j hfm
            have hle : j + (⟨0, v, none, 0, 0, [], List.replicate 32 0⟩ : Thg).enc.length ≤ m := by
              have h1 := congrArg List.length hfm
              rw [List.length_drop, List.length_append] at h1
              have h2 := EM.out
              omega
            have hRl' : j + (⟨0, v, none, 0, 0, [], List.replicate 32 0⟩ : Thg).enc.length + R'.length = m := by
              have h1 := congrArg List.length hfm
              rw [List.length_drop, List.length_append] at h1
              have h2 := EM.out
              omega
            obtain ⟨TT, hTT⟩ : ∃ TT, (⟨0, v, none, 0, 0, [], List.replicate 32 0⟩ : Thg) = TT := ⟨_, rfl⟩
            rw [hTT] at hT5 hok5 hle hRl' ft fd
            obtain ⟨el, hel⟩ : ∃ el, TT.enc.length = el := ⟨_, rfl⟩
            rw [hel] at hle hRl' ft fd
            have HEL := Lib.hid hel; clear hel
            have HFT := Lib.hid ft; clear ft
            have HFD := Lib.hid fd; clear fd
            have hi1 : (Try.prog.info? 38).map (·.size) = some TT.cells.length := by rw [Thg.cells_length]; kernel_rfl
            have HI := Lib.hid hi1; clear hi1
            have HTR := Lib.hid hT5.rng
            have HFM := Lib.hid hfm; clear hfm
            have HTT := Lib.hid hTT; clear hTT
            (repeat' ((fail_if_success at_builtin); first | (first | (with_reducible refine wpList_load_mid rfl 38 _ rfl w2.heap.size 0 rfl TT.cells _ HTR.out Try.underlying38 rfl HI.out ?_) | (refine build_thing rfl _ rfl TT rfl ?_; intro w6 hg6 hB6; have HG6 := Lib.hid hg6; clear hg6)) | go_values | go_skip | go_guarded | go_step | go_upon))
            have hok6 : TT.Ok w6 := hok5.below hB6 (Nat.le_refl _)
            refine (laidThings w.heap.size (.slice a6 j c6) j (l.take j) _ 1 1 [TT] w6 (owns_below hO5 hB6 (Nat.le_refl _)) (Nat.le_trans hB5w.size hB6.size) HTJ.out (things_one HG6.out hok6) rfl (by have := HEL.out; rw [List.flatMap_singleton]; omega) (by omega)).mono ?_
            rintro _ w7 ⟨a7, c7, rfl, hl7, hc7, hm7, hB7, hO7⟩
            dsimp only
            rw [List.flatMap_singleton, HEL.out] at hO7 hc7 hl7
            rw [List.flatMap_singleton, HEL.out]
            clear hl7
            have hB6w : Below w.heap.size w w6 := hB5w.trans (hB6.mono hB5w.size)
            have hB7w : Below w.heap.size w w7 := hB6w.trans (hB7.mono hB6w.size)
            have hR7 : Rd w7 g R' 0 := (hR5.below hB6 (Nat.le_refl _)).below hB7 (Nat.le_refl _)
            have HO7 := Lib.hid hO7; clear hO7
            have HRL' := Lib.hid hRl'; clear hRl'
            have HJM := Lib.hid hjm; clear hjm
            clear hform hT5 hok5 hok6 hO5 hO4 hO3 hO hbd
            (repeat' ((fail_if_success at_builtin); first | go_values | go_skip | go_guarded | go_step | go_upon))
            go_roundw
            case rel => exact ⟨⟨k + 1, j + el, R', by omega, by omega, by go_num, hB7w, hR7, HRL'.out, by rw [HFT.out]; exact HO7.out, HFD.out.symm⟩⟩
            case measure => simp [intOf]; omega
          | true =>
            have hr5 : RdB w5 a (l.take j) := (hr.below hB5w (Nat.le_refl _)).takeB j
            have hrO := rdc_of_owns hO5
            clear hform hbd hT5 hok5
            (repeat' ((fail_if_success at_builtin); first | go_values | go_skip | go_guarded | go_step | go_upon))
            refine (HBAD.out).mono ?_
            rintro _ w6 ⟨rfl, rfl⟩
            dsimp only
            (repeat' ((fail_if_success at_builtin); first | go_values | go_skip | go_guarded | go_step | go_upon))
            refine (same_yes hrO hr5 HTJ.out HTJ.out (by omega) rfl).mono ?_
            rintro _ w6 ⟨rfl, hs6⟩
            dsimp only
            (repeat' ((fail_if_success at_builtin); first | go_values | go_skip | go_guarded | go_step | go_upon))
            have hB6w : Below w.heap.size w w6 := hB5w.trans (hs6.below _)
            refine (works07 w6).mono ?_
            rintro _ w7 ⟨rfl, hB7⟩
            dsimp only
            (repeat' ((fail_if_success at_builtin); first | go_values | go_skip | go_guarded | go_step | go_upon))
            go_ret
            exact ⟨rfl, hB6w.trans (hB7.mono hB6w.size)⟩
        · rw [hk0]
          (repeat' ((fail_if_success at_builtin); first | ((refine wpList_store_fresh (w := w2) rfl 38 _ _ rfl _ 38 rfl (zeroThing 1) rfl ?_ ?_ (zeroThing_one _) ?_; exact hi35 _; rfl; intro w3 hg3 hB3; have d0' : w3.cell? ⟨b, off + k * 2, none⟩ = some (.int .i64 ts[k].kind) := (by rw [hB3.cell (p := ⟨b, off + k * 2, none⟩) hbs2]; exact d0); have d1' : w3.cell? ⟨b, off + k * 2 + 1, none⟩ = some (.int .i64 ts[k].most) := (by rw [hB3.cell (p := ⟨b, off + k * 2 + 1, none⟩) hbs2]; exact d1); have HG3 := Lib.hid hg3; clear hg3)) | go_values | go_skip | go_guarded | go_step | go_upon))
          refine (pickAny ts[k].kind 5 w3 hA1 (by omega)).mono ?_
          rintro _ w3' ⟨rfl, rfl⟩
          dsimp only
          rw [hk0]
          have hg3 := HG3.out
          have hz3 : w2.heap.size < w3.heap.size := (Array.getElem?_eq_some_iff.1 hg3).1
          have hB23 : Below wr.heap.size wr w3 := hB2.trans (hB3.mono hB2.size)
          have hR3 : Rd w3 g R 0 := hR.below hB23 (Nat.le_refl _)
          have hO3 := owns_below hO hB23 (Nat.le_refl _)
          have hB3w : Below w.heap.size w w3 := hB.trans (hB23.mono hB.size)
          have hgz : w2.heap.size ≠ g := by have := hR.lt; have := hB2.size; omega
          (repeat' ((fail_if_success at_builtin); first | go_values | go_skip | go_guarded | go_step | go_upon))
          have hform := blob_form ts[k].most R
          have hbl := rsBlob_len ts[k].most R 0
          have hX := rdBlobT g ts[k].most R 0 w3 hR3
          generalize rsBlob ts[k].most R 0 = r at *
          obtain ⟨bs, R', y⟩ := r
          simp only at hform hbl hX
          obtain ⟨q, hq⟩ : ∃ q, bs.length = q := ⟨_, rfl⟩
          have hq8 : q ≤ 4096 := by omega
          have HX := Lib.hid (hX.mono fun _ _ hh => And.intro (someT_num hh.1 hq) hh.2); clear hX
          have HFO := Lib.hid hform; clear hform
          have HQ := Lib.hid hq; clear hq hbl
          refine (HX.out).mono ?_
          rintro _ w4 ⟨⟨aB, cB, rfl, hcB, hrB, htB⟩, hg4, hR4⟩
          dsimp only
          have hform := HFO.out
          have hO4 := owns_rd hO3 hR3 hg4
          have hB4w : Below w.heap.size w w4 := hB3w.grown hg4 hB3w.size (fun k e => by cases e; exact hg1)
          have hg4z : w4.heap[w2.heap.size]? = some (.cells (zeroThing 1) 38 (0, 0)) := (hg4.block _ hz3 (by intro e; cases e; exact hgz rfl)).trans hg3
          have hzw : w.heap.size ≤ w2.heap.size := Nat.le_trans hB.size hB2.size
          have f1 := frozen_of_row w4 w2.heap.size 2 _ _ hg4z
          have e1 : w4.cell? ⟨w2.heap.size, 2, none⟩ = some (.slice none 0 0) := (cell_of_row w4 w2.heap.size 2 _ _ _ hg4z).trans rfl
          (repeat' ((fail_if_success at_builtin); first | go_values | go_skip | go_guarded | go_step | go_upon))
          obtain ⟨w5, hw5⟩ : ∃ w5, w4.setCell ⟨w2.heap.size, 2, none⟩ (.slice aB q cB) = w5 := ⟨_, rfl⟩
          have hG5 : w4.grownBy w5 (some w2.heap.size) := by rw [← hw5]; exact grown_set (World.grownBy.refl _ _) 2 _
          have hT5 : ThAt w5 w2.heap.size ⟨1, 0, aB, q, cB, bs, List.replicate 32 0⟩ := by rw [← hw5]; exact thAt_row (set_at hg4z 2 _)
          rw [hw5]
          clear hw5
          have hok5 : Thg.Ok w5 ⟨1, 0, aB, q, cB, bs, List.replicate 32 0⟩ := ⟨by dsimp only; omega, by dsimp only; omega, HQ.out, by dsimp only; omega, hrB.typNe (by rw [bvs_length, HQ.out]; exact htB) hg4z (by decide) hG5, rfl⟩
          have hR5 : Rd w5 g R' y := hR4.typNe hg4z (by decide) (by decide) hG5
          have hO5 := owns_typNe hO4 hg4z (by decide) hG5
          have hB5w : Below w.heap.size w w5 := hB4w.grown hG5 hB4w.size (fun k e => by cases e; exact hzw)
          have hBad := rdBad g R' y w5 hR5
          obtain ⟨bd, hbd⟩ : ∃ bd, (y != 0) = bd := ⟨_, rfl⟩
          rw [hbd] at hBad
          have HBAD := Lib.hid hBad; clear hBad
          refine (HBAD.out).mono ?_
          rintro _ w5' ⟨rfl, rfl⟩
          dsimp only
          cases bd with
          | false =>
            have hy : y = 0 := by simpa using hbd
            subst hy
            have hfm : l.drop j = (⟨1, 0, aB, q, cB, bs, List.replicate 32 0⟩ : Thg).enc ++ R' := by rw [← HRL.out]; exact (hform rfl).trans (by rw [HQ.out, ← List.append_assoc]; rfl)
            obtain ⟨ft, fd⟩ := take_form l R' _ j hfm
            have hle : j + (⟨1, 0, aB, q, cB, bs, List.replicate 32 0⟩ : Thg).enc.length ≤ m := by
              have h1 := congrArg List.length hfm
              rw [List.length_drop, List.length_append] at h1
              have h2 := EM.out
              omega
            have hRl' : j + (⟨1, 0, aB, q, cB, bs, List.replicate 32 0⟩ : Thg).enc.length + R'.length = m := by
              have h1 := congrArg List.length hfm
              rw [List.length_drop, List.length_append] at h1
              have h2 := EM.out
              omega
            obtain ⟨TT, hTT⟩ : ∃ TT, (⟨1, 0, aB, q, cB, bs, List.replicate 32 0⟩ : Thg) = TT := ⟨_, rfl⟩
            rw [hTT] at hT5 hok5 hle hRl' ft fd
            obtain ⟨el, hel⟩ : ∃ el, TT.enc.length = el := ⟨_, rfl⟩
            rw [hel] at hle hRl' ft fd
            have HEL := Lib.hid hel; clear hel
            have HFT := Lib.hid ft; clear ft
            have HFD := Lib.hid fd; clear fd
            have hi1 : (Try.prog.info? 38).map (·.size) = some TT.cells.length := by rw [Thg.cells_length]; kernel_rfl
            have HI := Lib.hid hi1; clear hi1
            have HTR := Lib.hid hT5.rng
            have HFM := Lib.hid hfm; clear hfm
            have HTT := Lib.hid hTT; clear hTT
            (repeat' ((fail_if_success at_builtin); first | (first | (with_reducible refine wpList_load_mid rfl 38 _ rfl w2.heap.size 0 rfl TT.cells _ HTR.out Try.underlying38 rfl HI.out ?_) | (refine build_thing rfl _ rfl TT rfl ?_; intro w6 hg6 hB6; have HG6 := Lib.hid hg6; clear hg6)) | go_values | go_skip | go_guarded | go_step | go_upon))
            have hok6 : TT.Ok w6 := hok5.below hB6 (Nat.le_refl _)
            refine (laidThings w.heap.size (.slice a6 j c6) j (l.take j) _ 1 1 [TT] w6 (owns_below hO5 hB6 (Nat.le_refl _)) (Nat.le_trans hB5w.size hB6.size) HTJ.out (things_one HG6.out hok6) rfl (by have := HEL.out; rw [List.flatMap_singleton]; omega) (by omega)).mono ?_
            rintro _ w7 ⟨a7, c7, rfl, hl7, hc7, hm7, hB7, hO7⟩
            dsimp only
            rw [List.flatMap_singleton, HEL.out] at hO7 hc7 hl7
            rw [List.flatMap_singleton, HEL.out]
            clear hl7
            have hB6w : Below w.heap.size w w6 := hB5w.trans (hB6.mono hB5w.size)
            have hB7w : Below w.heap.size w w7 := hB6w.trans (hB7.mono hB6w.size)
            have hR7 : Rd w7 g R' 0 := (hR5.below hB6 (Nat.le_refl _)).below hB7 (Nat.le_refl _)
            have HO7 := Lib.hid hO7; clear hO7
            have HRL' := Lib.hid hRl'; clear hRl'
            have HJM := Lib.hid hjm; clear hjm
            clear hform hT5 hok5 hok6 hO5 hO4 hO3 hO hbd
            (repeat' ((fail_if_success at_builtin); first | go_values | go_skip | go_guarded | go_step | go_upon))
            go_roundw
            case rel => exact ⟨⟨k + 1, j + el, R', by omega, by omega, by go_num, hB7w, hR7, HRL'.out, by rw [HFT.out]; exact HO7.out, HFD.out.symm⟩⟩
            case measure => simp [intOf]; omega
          | true =>
            have hr5 : RdB w5 a (l.take j) := (hr.below hB5w (Nat.le_refl _)).takeB j
            have hrO := rdc_of_owns hO5
            clear hform hbd hT5 hok5
            (repeat' ((fail_if_success at_builtin); first | go_values | go_skip | go_guarded | go_step | go_upon))
            refine (HBAD.out).mono ?_
            rintro _ w6 ⟨rfl, rfl⟩
            dsimp only
            (repeat' ((fail_if_success at_builtin); first | go_values | go_skip | go_guarded | go_step | go_upon))
            refine (same_yes hrO hr5 HTJ.out HTJ.out (by omega) rfl).mono ?_
            rintro _ w6 ⟨rfl, hs6⟩
            dsimp only
            (repeat' ((fail_if_success at_builtin); first | go_values | go_skip | go_guarded | go_step | go_upon))
            have hB6w : Below w.heap.size w w6 := hB5w.trans (hs6.below _)
            refine (works07 w6).mono ?_
            rintro _ w7 ⟨rfl, hB7⟩
            dsimp only
            (repeat' ((fail_if_success at_builtin); first | go_values | go_skip | go_guarded | go_step | go_upon))
            go_ret
            exact ⟨rfl, hB6w.trans (hB7.mono hB6w.size)⟩
        · rw [hk0]
          (repeat' ((fail_if_success at_builtin); first | ((refine wpList_store_fresh (w := w2) rfl 38 _ _ rfl _ 38 rfl (zeroThing 2) rfl ?_ ?_ (zeroThing_one _) ?_; exact hi35 _; rfl; intro w3 hg3 hB3; have d0' : w3.cell? ⟨b, off + k * 2, none⟩ = some (.int .i64 ts[k].kind) := (by rw [hB3.cell (p := ⟨b, off + k * 2, none⟩) hbs2]; exact d0); have d1' : w3.cell? ⟨b, off + k * 2 + 1, none⟩ = some (.int .i64 ts[k].most) := (by rw [hB3.cell (p := ⟨b, off + k * 2 + 1, none⟩) hbs2]; exact d1); have HG3 := Lib.hid hg3; clear hg3)) | go_values | go_skip | go_guarded | go_step | go_upon))
          refine (pickAny ts[k].kind 5 w3 hA1 (by omega)).mono ?_
          rintro _ w3' ⟨rfl, rfl⟩
          dsimp only
          rw [hk0]
          have hg3 := HG3.out
          have hz3 : w2.heap.size < w3.heap.size := (Array.getElem?_eq_some_iff.1 hg3).1
          have hB23 : Below wr.heap.size wr w3 := hB2.trans (hB3.mono hB2.size)
          have hR3 : Rd w3 g R 0 := hR.below hB23 (Nat.le_refl _)
          have hO3 := owns_below hO hB23 (Nat.le_refl _)
          have hB3w : Below w.heap.size w w3 := hB.trans (hB23.mono hB.size)
          have hgz : w2.heap.size ≠ g := by have := hR.lt; have := hB2.size; omega
          (repeat' ((fail_if_success at_builtin); first | go_values | go_skip | go_guarded | go_step | go_upon))
          have hform := blob_form ts[k].most R
          have hbl := rsBlob_len ts[k].most R 0
          have hX := rdText g ts[k].most R 0 w3 hR3
          generalize rsBlob ts[k].most R 0 = r at *
          obtain ⟨bs, R', y⟩ := r
          simp only at hform hbl hX
          obtain ⟨q, hq⟩ : ∃ q, bs.length = q := ⟨_, rfl⟩
          have hq8 : q ≤ 4096 := by omega
          have HX := Lib.hid hX; clear hX
          have HFO := Lib.hid hform; clear hform
          have HQ := Lib.hid hq; clear hq hbl
          refine (HX.out).mono ?_
          rintro _ w4 ⟨rfl, hg4, hR4⟩
          dsimp only
          have hform := HFO.out
          have hO4 := owns_rd hO3 hR3 hg4
          have hB4w : Below w.heap.size w w4 := hB3w.grown hg4 hB3w.size (fun k e => by cases e; exact hg1)
          have hg4z : w4.heap[w2.heap.size]? = some (.cells (zeroThing 2) 38 (0, 0)) := (hg4.block _ hz3 (by intro e; cases e; exact hgz rfl)).trans hg3
          have hzw : w.heap.size ≤ w2.heap.size := Nat.le_trans hB.size hB2.size
          have hcb := run_bytes w4 bs
          rw [HQ.out] at hcb
          obtain ⟨cB, wc, hcv, hBc, hrB, htB⟩ := hcb
          have hR4 : Rd wc g R' y := hR4.below hBc (Nat.le_refl _)
          have hO4 := owns_below hO4 hBc (Nat.le_refl _)
          have hB4w : Below w.heap.size w wc := hB4w.trans (hBc.mono hB4w.size)
          have hg4z : wc.heap[w2.heap.size]? = some (.cells (zeroThing 2) 38 (0, 0)) := (hBc.block _ (Array.getElem?_eq_some_iff.1 hg4z).1).trans hg4z
          have f1 := frozen_of_row wc w2.heap.size 2 _ _ hg4z
          have e1 : wc.cell? ⟨w2.heap.size, 2, none⟩ = some (.slice none 0 0) := (cell_of_row wc w2.heap.size 2 _ _ _ hg4z).trans rfl
          (repeat' ((fail_if_success at_builtin); first | go_values | go_skip | go_guarded | go_step | go_upon))
          obtain ⟨w5, hw5⟩ : ∃ w5, wc.setCell ⟨w2.heap.size, 2, none⟩ (.slice (some ⟨w4.heap.size, 0, none⟩) q cB) = w5 := ⟨_, rfl⟩
          have hG5 : wc.grownBy w5 (some w2.heap.size) := by rw [← hw5]; exact grown_set (World.grownBy.refl _ _) 2 _
          have hT5 : ThAt w5 w2.heap.size ⟨2, 0, some ⟨w4.heap.size, 0, none⟩, q, cB, bs, List.replicate 32 0⟩ := by rw [← hw5]; exact thAt_row (set_at hg4z 2 _)
          rw [hw5]
          clear hw5
          have hok5 : Thg.Ok w5 ⟨2, 0, some ⟨w4.heap.size, 0, none⟩, q, cB, bs, List.replicate 32 0⟩ := ⟨by dsimp only; omega, by dsimp only; omega, HQ.out, by dsimp only; omega, hrB.typNe (by rw [bvs_length, HQ.out]; exact htB) hg4z (by decide) hG5, rfl⟩
          have hR5 : Rd w5 g R' y := hR4.typNe hg4z (by decide) (by decide) hG5
          have hO5 := owns_typNe hO4 hg4z (by decide) hG5
          have hB5w : Below w.heap.size w w5 := hB4w.grown hG5 hB4w.size (fun k e => by cases e; exact hzw)
          have hBad := rdBad g R' y w5 hR5
          obtain ⟨bd, hbd⟩ : ∃ bd, (y != 0) = bd := ⟨_, rfl⟩
          rw [hbd] at hBad
          have HBAD := Lib.hid hBad; clear hBad
          refine (HBAD.out).mono ?_
          rintro _ w5' ⟨rfl, rfl⟩
          dsimp only
          cases bd with
          | false =>
            have hy : y = 0 := by simpa using hbd
            subst hy
            have hfm : l.drop j = (⟨2, 0, some ⟨w4.heap.size, 0, none⟩, q, cB, bs, List.replicate 32 0⟩ : Thg).enc ++ R' := by rw [← HRL.out]; exact (hform rfl).trans (by rw [HQ.out, ← List.append_assoc]; rfl)
            obtain ⟨ft, fd⟩ := take_form l R' _ j hfm
            have hle : j + (⟨2, 0, some ⟨w4.heap.size, 0, none⟩, q, cB, bs, List.replicate 32 0⟩ : Thg).enc.length ≤ m := by
              have h1 := congrArg List.length hfm
              rw [List.length_drop, List.length_append] at h1
              have h2 := EM.out
              omega
            have hRl' : j + (⟨2, 0, some ⟨w4.heap.size, 0, none⟩, q, cB, bs, List.replicate 32 0⟩ : Thg).enc.length + R'.length = m := by
              have h1 := congrArg List.length hfm
              rw [List.length_drop, List.length_append] at h1
              have h2 := EM.out
              omega
            obtain ⟨TT, hTT⟩ : ∃ TT, (⟨2, 0, some ⟨w4.heap.size, 0, none⟩, q, cB, bs, List.replicate 32 0⟩ : Thg) = TT := ⟨_, rfl⟩
            rw [hTT] at hT5 hok5 hle hRl' ft fd
            obtain ⟨el, hel⟩ : ∃ el, TT.enc.length = el := ⟨_, rfl⟩
            rw [hel] at hle hRl' ft fd
            have HEL := Lib.hid hel; clear hel
            have HFT := Lib.hid ft; clear ft
            have HFD := Lib.hid fd; clear fd
            have hi1 : (Try.prog.info? 38).map (·.size) = some TT.cells.length := by rw [Thg.cells_length]; kernel_rfl
            have HI := Lib.hid hi1; clear hi1
            have HTR := Lib.hid hT5.rng
            have HFM := Lib.hid hfm; clear hfm
            have HTT := Lib.hid hTT; clear hTT
            (repeat' ((fail_if_success at_builtin); first | (first | (with_reducible refine wpList_load_mid rfl 38 _ rfl w2.heap.size 0 rfl TT.cells _ HTR.out Try.underlying38 rfl HI.out ?_) | (refine build_thing rfl _ rfl TT rfl ?_; intro w6 hg6 hB6; have HG6 := Lib.hid hg6; clear hg6)) | go_values | go_skip | go_guarded | go_step | go_upon))
            have hok6 : TT.Ok w6 := hok5.below hB6 (Nat.le_refl _)
            refine (laidThings w.heap.size (.slice a6 j c6) j (l.take j) _ 1 1 [TT] w6 (owns_below hO5 hB6 (Nat.le_refl _)) (Nat.le_trans hB5w.size hB6.size) HTJ.out (things_one HG6.out hok6) rfl (by have := HEL.out; rw [List.flatMap_singleton]; omega) (by omega)).mono ?_
            rintro _ w7 ⟨a7, c7, rfl, hl7, hc7, hm7, hB7, hO7⟩
            dsimp only
            rw [List.flatMap_singleton, HEL.out] at hO7 hc7 hl7
            rw [List.flatMap_singleton, HEL.out]
            clear hl7
            have hB6w : Below w.heap.size w w6 := hB5w.trans (hB6.mono hB5w.size)
            have hB7w : Below w.heap.size w w7 := hB6w.trans (hB7.mono hB6w.size)
            have hR7 : Rd w7 g R' 0 := (hR5.below hB6 (Nat.le_refl _)).below hB7 (Nat.le_refl _)
            have HO7 := Lib.hid hO7; clear hO7
            have HRL' := Lib.hid hRl'; clear hRl'
            have HJM := Lib.hid hjm; clear hjm
            clear hform hT5 hok5 hok6 hO5 hO4 hO3 hO hbd
            (repeat' ((fail_if_success at_builtin); first | go_values | go_skip | go_guarded | go_step | go_upon))
            go_roundw
            case rel => exact ⟨⟨k + 1, j + el, R', by omega, by omega, by go_num, hB7w, hR7, HRL'.out, by rw [HFT.out]; exact HO7.out, HFD.out.symm⟩⟩
            case measure => simp [intOf]; omega
          | true =>
            have hr5 : RdB w5 a (l.take j) := (hr.below hB5w (Nat.le_refl _)).takeB j
            have hrO := rdc_of_owns hO5
            clear hform hbd hT5 hok5
            (repeat' ((fail_if_success at_builtin); first | go_values | go_skip | go_guarded | go_step | go_upon))
            refine (HBAD.out).mono ?_
            rintro _ w6 ⟨rfl, rfl⟩
            dsimp only
            (repeat' ((fail_if_success at_builtin); first | go_values | go_skip | go_guarded | go_step | go_upon))
            refine (same_yes hrO hr5 HTJ.out HTJ.out (by omega) rfl).mono ?_
            rintro _ w6 ⟨rfl, hs6⟩
            dsimp only
            (repeat' ((fail_if_success at_builtin); first | go_values | go_skip | go_guarded | go_step | go_upon))
            have hB6w : Below w.heap.size w w6 := hB5w.trans (hs6.below _)
            refine (works07 w6).mono ?_
            rintro _ w7 ⟨rfl, hB7⟩
            dsimp only
            (repeat' ((fail_if_success at_builtin); first | go_values | go_skip | go_guarded | go_step | go_upon))
            go_ret
            exact ⟨rfl, hB6w.trans (hB7.mono hB6w.size)⟩
      · have hO5 := hO
        have hr5 : RdB wr a (l.take j) := (hr.below hB (Nat.le_refl _)).takeB j
        have hrO := rdc_of_owns hO5
        have hneq : (((j : Int) + (R.length : Int)) != (m : Int)) = false := by rw [bne_eq_false_iff_eq]; omega
        by_cases hkn : k < n
        · have hk8 : k = 80 := by omega
          subst hk8
          (repeat' ((fail_if_success at_builtin); first | go_values | go_skip | go_guarded | go_step | go_upon))
          refine (rdBad g _ _ wr hR).mono ?_
          rintro _ w6 ⟨rfl, rfl⟩
          dsimp only
          (repeat' ((fail_if_success at_builtin); first | go_values | go_skip | go_guarded | go_step | go_upon))
          refine (rdLeft g _ _ wr hR).mono ?_
          rintro _ w6 ⟨rfl, rfl⟩
          dsimp only
          (repeat' ((fail_if_success at_builtin); first | go_values | go_skip | go_guarded | go_step | go_upon))
          refine (same_yes hrO hr5 HTJ.out HTJ.out (by omega) rfl).mono ?_
          rintro _ w6 ⟨rfl, hs6⟩
          dsimp only
          (repeat' ((fail_if_success at_builtin); first | go_values | go_skip | go_guarded | go_step | go_upon))
          have hB6w : Below w.heap.size w w6 := hB.trans (hs6.below _)
          refine (works07 w6).mono ?_
          rintro _ w7 ⟨rfl, hB7⟩
          dsimp only
          (repeat' ((fail_if_success at_builtin); first | go_values | go_skip | go_guarded | go_step | go_upon))
          go_ret
          exact ⟨rfl, hB6w.trans (hB7.mono hB6w.size)⟩
        · (repeat' ((fail_if_success at_builtin); first | go_values | go_skip | go_guarded | go_step | go_upon))
          refine (rdBad g _ _ wr hR).mono ?_
          rintro _ w6 ⟨rfl, rfl⟩
          dsimp only
          (repeat' ((fail_if_success at_builtin); first | go_values | go_skip | go_guarded | go_step | go_upon))
          refine (rdLeft g _ _ wr hR).mono ?_
          rintro _ w6 ⟨rfl, rfl⟩
          dsimp only
          (repeat' ((fail_if_success at_builtin); first | go_values | go_skip | go_guarded | go_step | go_upon))
          refine (same_yes hrO hr5 HTJ.out HTJ.out (by omega) rfl).mono ?_
          rintro _ w6 ⟨rfl, hs6⟩
          dsimp only
          (repeat' ((fail_if_success at_builtin); first | go_values | go_skip | go_guarded | go_step | go_upon))
          have hB6w : Below w.heap.size w w6 := hB.trans (hs6.below _)
          refine (works07 w6).mono ?_
          rintro _ w7 ⟨rfl, hB7⟩
          dsimp only
          (repeat' ((fail_if_success at_builtin); first | go_values | go_skip | go_guarded | go_step | go_upon))
          go_ret
          exact ⟨rfl, hB6w.trans (hB7.mono hB6w.size)⟩

end Go.Proofs.Yticpdpnkmeicjaa
