/- What the functions of package pack answer, one contract a function. -/
import Derived.Test.YtdpfemhfmofmlaaDoorKit
import Derived.Test.YtdpfemhfmofmlaaDoorNum
namespace Go.Proofs.YtdpfemhfmofmlaaDoor
open Go.RowKit
set_option maxRecDepth 10000

set_option maxHeartbeats 400000 in
theorem number (v : Int) (w : World) (_hv : -9223372036854775808 ≤ v ∧ v ≤ 9223372036854775807) :
    Calls Tryd.prog 114 #[.int .i64 v] w (GotB w 8 (be8 v)) := by
  have hmk : ∀ w, (Instr.makeSlice 22 (.int .i64 8) (.int .i64 8)).run Tryd.prog w = .ok (.slice (some ⟨w.heap.size, 0, none⟩) 8 8) (w.alloc (.cells #[.int .u8 0, .int .u8 0, .int .u8 0, .int .u8 0, .int .u8 0, .int .u8 0, .int .u8 0, .int .u8 0] 5)) := fun _ => by kernel_rfl
  have hO0 : (w.alloc (.cells #[.int .u8 0, .int .u8 0, .int .u8 0, .int .u8 0, .int .u8 0, .int .u8 0, .int .u8 0, .int .u8 0] 5)).ownsRow w.heap.size 5 1 (.slice (some ⟨w.heap.size, 0, none⟩) 8 8) 8 (numCells v 0) := by
    have := World.ownsRow_lit (base := w.heap.size) (e := 5) (size := 1) w #[.int .u8 0, .int .u8 0, .int .u8 0, .int .u8 0, .int .u8 0, .int .u8 0, .int .u8 0, .int .u8 0] 8 (Nat.le_refl _) (by decide) rfl
    exact this
  go_enter Tryd.func114, Tryd.ntmps114
  (repeat' ((fail_if_success at_builtin); first | go_values | go_skip | go_guarded | go_step | go_upon))
  go_loopw [4, 8] (fun _ i wr => ∃ k : Nat, k ≤ 8 ∧ i = .int .i64 k ∧ Below w.heap.size w wr ∧ wr.ownsRow w.heap.size 5 1 (.slice (some ⟨w.heap.size, 0, none⟩) 8 8) 8 (numCells v k)) (fun _ i _ => 8 - (intOf i).toNat)
  case atStart => exact ⟨0, Nat.zero_le _, rfl, (Below.refl _ _).alloc (Nat.le_refl _) _, hO0⟩
  case round =>
    obtain ⟨k, hk, rfl, hB, hO⟩ := hrel
    by_cases hlt : k < 8
    · have hl8 : 7 - k < (numCells v k).length := by have := hO.1; omega
      obtain ⟨old, hc1⟩ : ∃ u, wr.cell? ⟨w.heap.size, 7 - k, none⟩ = some u := ⟨_, (hO.cellAt (7 - k) (by omega)).trans (List.getElem?_eq_getElem hl8)⟩
      have hf1 := hO.frozenAt (7 - k)
      have HS := Lib.hid (hO.stored (7 - k) (.int .u8 (nb v k)))
      (repeat' ((fail_if_success at_builtin); first | go_values | go_skip | go_guarded | go_step | go_upon))
      go_roundw
      case rel => exact ⟨k + 1, by omega, by go_num, hB.setCell (Nat.le_refl _) _, by rw [← numCells_step v k hlt]; exact HS.out.1⟩
      case measure => simp [intOf]; omega
    · (repeat' ((fail_if_success at_builtin); first | go_values | go_skip | go_guarded | go_step | go_upon))
      go_ret
      obtain rfl : k = 8 := by omega
      exact gotB hB (by rw [← numCells_all]; exact hO)

set_option maxHeartbeats 400000 in
theorem laidBytes (a b : Option Addr) (n m c d : Nat) (l k : List UInt8) (w : World) (ha : RdB w a l) (hb : RdB w b k) (e1 : l.length = n) (e2 : k.length = m) (hn : n ≤ 1073741824) (hm : m ≤ 1073741824) :
    Calls Tryd.prog 113 #[.slice a n c, .slice b m d] w (GotB w (n + m) (l ++ k)) := by
  subst e1 e2
  obtain ⟨i0, hi, hz0, hz1, hz2⟩ := info_parts u8Info
  go_enter Tryd.func113, Tryd.ntmps113
  (repeat' ((fail_if_success at_builtin); (fail_if_success at_make); first | go_values | go_skip | go_guarded | go_step | go_upon))
  refine wpList_make_own w rfl _ _ 22 rfl w.heap.size 5 i0 _ 1 Tryd.underlying22 hi hz0 hz1 _ _ _ (l.length + k.length + 16) rfl rfl (by omega) (by rw [hz2]; omega) (by unfold maxLen; omega) (Nat.le_refl _) ?_
  intro w1 hO1 hg1
  have hB1 : Below w.heap.size w w1 := (Below.refl _ _).grown hg1 (Nat.le_refl _) (fun g e => by cases e)
  (repeat' ((fail_if_success at_builtin); first | go_values | go_skip | go_guarded | go_step | go_upon))
  refine wpList_app _ rfl _ _ _ _ rfl w.heap.size 5 i0 _ 1 1 Tryd.underlying22 hi hz0 hz1 hz2 rfl _ _ _ rfl hO1 _ rfl l.length (bvs l) (src_of_rdc Tryd.underlying22 (ha.below hB1 (Nat.le_refl _)) (by simp [bvs]) (bvs_oneCell l)) (by unfold maxLen; omega) (by omega) (hB1.size) ?_
  intro v2 w2 hO2 hg2
  have hB2 : Below w.heap.size w w2 := hB1.grown hg2 hB1.size (fun g e => (hO1.lt g e).1)
  simp only [Nat.zero_add, List.nil_append] at hO2
  (repeat' ((fail_if_success at_builtin); first | go_values | go_skip | go_guarded | go_step | go_upon))
  refine wpList_app _ rfl _ _ _ _ rfl w.heap.size 5 i0 _ 1 1 Tryd.underlying22 hi hz0 hz1 hz2 rfl _ _ _ rfl hO2 _ rfl k.length (bvs k) (src_of_rdc Tryd.underlying22 (hb.below hB2 (Nat.le_refl _)) (by simp [bvs]) (bvs_oneCell k)) (by unfold maxLen; omega) (by omega) (hB2.size) ?_
  intro v3 w3 hO3 hg3
  have hB3 : Below w.heap.size w w3 := hB2.grown hg3 hB2.size (fun g e => (hO2.lt g e).1)
  (repeat' ((fail_if_success at_builtin); first | go_values | go_skip | go_guarded | go_step | go_upon))
  go_ret
  exact gotB hB3 (by rw [bvs_append]; exact hO3)

set_option maxHeartbeats 400000 in
theorem laidString (a : Option Addr) (n c : Nat) (l : List UInt8) (s : ByteArray) (w : World) (ha : RdB w a l) (e1 : l.length = n) (hn : n ≤ 1073741824) (hm : s.size ≤ 1073741824) :
    Calls Tryd.prog 115 #[.slice a n c, .string s] w (GotB w (n + s.size) (l ++ s.data.toList)) := by
  subst e1
  obtain ⟨i0, hi, hz0, hz1, hz2⟩ := info_parts u8Info
  go_enter Tryd.func115, Tryd.ntmps115
  (repeat' ((fail_if_success at_builtin); (fail_if_success at_make); first | go_values | go_skip | go_guarded | go_step | go_upon))
  refine wpList_make_own w rfl _ _ 22 rfl w.heap.size 5 i0 _ 1 Tryd.underlying22 hi hz0 hz1 _ _ _ (l.length + s.size + 16) rfl rfl (by omega) (by rw [hz2]; omega) (by unfold maxLen; omega) (Nat.le_refl _) ?_
  intro w1 hO1 hg1
  have hB1 : Below w.heap.size w w1 := (Below.refl _ _).grown hg1 (Nat.le_refl _) (fun g e => by cases e)
  (repeat' ((fail_if_success at_builtin); first | go_values | go_skip | go_guarded | go_step | go_upon))
  refine wpList_app _ rfl _ _ _ _ rfl w.heap.size 5 i0 _ 1 1 Tryd.underlying22 hi hz0 hz1 hz2 rfl _ _ _ rfl hO1 _ rfl l.length (bvs l) (src_of_rdc Tryd.underlying22 (ha.below hB1 (Nat.le_refl _)) (by simp [bvs]) (bvs_oneCell l)) (by unfold maxLen; omega) (by omega) (hB1.size) ?_
  intro v2 w2 hO2 hg2
  have hB2 : Below w.heap.size w w2 := hB1.grown hg2 hB1.size (fun g e => (hO1.lt g e).1)
  simp only [Nat.zero_add, List.nil_append] at hO2
  (repeat' ((fail_if_success at_builtin); first | go_values | go_skip | go_guarded | go_step | go_upon))
  refine wpList_app _ rfl _ _ _ _ rfl w.heap.size 5 i0 _ 1 1 Tryd.underlying22 hi hz0 hz1 hz2 rfl _ _ _ rfl hO2 _ rfl s.size (bvs s.data.toList) (Src.ofString w2 Tryd.underlying9 s) (by unfold maxLen; omega) (by omega) (hB2.size) ?_
  intro v3 w3 hO3 hg3
  have hB3 : Below w.heap.size w w3 := hB2.grown hg3 hB2.size (fun g e => (hO2.lt g e).1)
  (repeat' ((fail_if_success at_builtin); first | go_values | go_skip | go_guarded | go_step | go_upon))
  go_ret
  exact gotB hB3 (by rw [bvs_append]; exact hO3)

set_option maxHeartbeats 400000 in
theorem packInt (a : Option Addr) (n c : Nat) (l : List UInt8) (v : Int) (w : World) (ha : RdB w a l) (en : l.length = n) (hn : n ≤ 1073741824) (hv : -9223372036854775808 ≤ v ∧ v ≤ 9223372036854775807) :
    Calls Tryd.prog 95 #[.slice a n c, .int .i64 v] w (GotB w (n + 8) (l ++ be8 v)) := by
  go_enter Tryd.func95, Tryd.ntmps95
  (repeat' ((fail_if_success at_builtin); first | go_values | go_skip | go_guarded | go_step | go_upon))
  refine (number v w hv).mono ?_
  rintro _ w1 ⟨a1, c1, rfl, hc1, hr1, hB1, hO1⟩
  dsimp only
  (repeat' ((fail_if_success at_builtin); first | go_values | go_skip | go_guarded | go_step | go_upon))
  refine (laidBytes _ _ n 8 _ _ l (be8 v) w1 (ha.below hB1 (Nat.le_refl _)) hr1 en rfl hn (by omega)).mono ?_
  rintro _ w2 ⟨a2, c2, rfl, h2⟩
  dsimp only
  (repeat' ((fail_if_success at_builtin); first | go_values | go_skip | go_guarded | go_step | go_upon))
  go_ret
  exact gotB_lift h2 hB1


set_option maxHeartbeats 400000 in
theorem packText (a : Option Addr) (n c : Nat) (l : List UInt8) (s : ByteArray) (w : World) (ha : RdB w a l) (e1 : l.length = n) (hn : n ≤ 1000000000) (hm : s.size ≤ 1073741824) :
    Calls Tryd.prog 96 #[.slice a n c, .string s] w (GotB w (n + 8 + s.size) (l ++ be8 s.size ++ s.data.toList)) := by
  go_enter Tryd.func96, Tryd.ntmps96
  (repeat' ((fail_if_success at_builtin); first | go_values | go_skip | go_guarded | go_step | go_upon))
  refine (packInt _ _ _ l s.size w ha e1 (by omega) (by omega)).mono ?_
  rintro _ w1 ⟨a1, c1, rfl, hc1, hr1, hB1, hO1⟩
  dsimp only
  (repeat' ((fail_if_success at_builtin); first | go_values | go_skip | go_guarded | go_step | go_upon))
  refine (laidString _ _ _ (l ++ be8 s.size) s w1 hr1 (by simp [be8_length, e1]) (by omega) (by omega)).mono ?_
  rintro _ w2 ⟨a2, c2, rfl, h2⟩
  dsimp only
  (repeat' ((fail_if_success at_builtin); first | go_values | go_skip | go_guarded | go_step | go_upon))
  go_ret
  exact gotB_lift h2 hB1

set_option maxHeartbeats 400000 in
theorem packSum (a : Option Addr) (n c : Nat) (l s : List UInt8) (w : World) (ha : RdB w a l) (e1 : l.length = n) (hn : n ≤ 1073741824) (hs : s.length = 32) :
    Calls Tryd.prog 104 #[.slice a n c, .agg (bvs s).toArray] w (GotB w (n + 32) (l ++ s)) := by
  go_enter Tryd.func104, Tryd.ntmps104
  (repeat' ((fail_if_success at_builtin); first | go_values | go_skip | go_guarded | go_step | go_upon))
  refine (laidBytes _ _ _ _ _ _ l s _ (ha.alloc _) (rdb_new w s _) e1 hs hn (by omega)).mono ?_
  rintro _ w2 ⟨a2, c2, rfl, h2⟩
  dsimp only
  (repeat' ((fail_if_success at_builtin); first | go_values | go_skip | go_guarded | go_step | go_upon))
  go_ret
  exact gotB_lift h2 ((Below.refl _ _).alloc (Nat.le_refl _) _)

set_option maxHeartbeats 400000 in
theorem bytesClone (a : Option Addr) (n c : Nat) (l : List UInt8) (w : World) (ha : RdB w a l) (e1 : l.length = n) (hn : n ≤ 1073741824) :
    Calls Tryd.prog 94 #[.slice a n c] w (GotB w n l) := by
  obtain ⟨i0, hi, hz0, hz1, hz2⟩ := info_parts u8Info
  subst e1
  cases a with
  | none =>
    obtain rfl : l = [] := by
      rcases Nat.eq_zero_or_pos l.length with h | h
      · exact List.eq_nil_of_length_eq_zero h
      · obtain ⟨_, _, e, _⟩ := ha.lt (by simpa [bvs] using h); cases e
    have hq := fun w => Lib.run_eql_slice_nil (P := Tryd.prog) w 22 5 none 0 c 0 0 Tryd.underlying22
    go_enter Tryd.func94, Tryd.ntmps94
    (repeat' ((fail_if_success at_builtin); first | go_values | go_skip | go_guarded | go_step | go_upon))
    go_ret
    exact gotB (Below.refl _ _) (World.ownsRow_nil _ _ _ _)
  | some ad =>
    have hq := fun w => Lib.run_eql_slice_nil (P := Tryd.prog) w 22 5 (some ad) l.length c 0 0 Tryd.underlying22
    go_enter Tryd.func94, Tryd.ntmps94
    (repeat' ((fail_if_success at_builtin); first | go_values | go_skip | go_guarded | go_step | go_upon))
    refine wpList_app _ rfl _ _ _ _ rfl w.heap.size 5 i0 _ 1 1 Tryd.underlying22 hi hz0 hz1 hz2 rfl _ _ _ rfl (World.ownsRow_lit (base := w.heap.size) (size := 1) w #[] 0 (Nat.le_refl _) (by decide) rfl) _ rfl l.length (bvs l) (src_of_rdc Tryd.underlying22 (ha.alloc _) (by simp [bvs]) (bvs_oneCell l)) (by unfold maxLen; omega) (by omega) (by simp) ?_
    intro v1 w1 hO1 hg1
    have hB1 : Below w.heap.size w w1 := ((Below.refl _ _).alloc (Nat.le_refl _) _).grown hg1 (by simp) (fun g e => by cases e; exact Nat.le_refl _)
    simp only [Nat.zero_add] at hO1
    (repeat' ((fail_if_success at_builtin); first | go_values | go_skip | go_guarded | go_step | go_upon))
    go_ret
    exact gotB hB1 hO1

/-! ### The reader -/
/-- A reader at g: the bytes that are left, the error that has stuck. -/
structure Rd (w : World) (g : Nat) (l : List UInt8) (why : Int) : Prop where
  row : ∃ a c, w.heap[g]? = some (.cells #[.slice a l.length c, .int .i64 why] 121 (0, 0)) ∧ l.length ≤ c ∧ RdB w a l ∧ Typ w 5 a l.length
  none : why ≠ 0 → l = []
  small : l.length ≤ 1073741824

/-- Behind a call the reader at g stands so; nothing else that was there has turned. -/
def RdTo (w : World) (g : Nat) (l : List UInt8) (why : Int) (w' : World) : Prop := w.grownBy w' (some g) ∧ Rd w' g l why

theorem rdCells_no (a : Option Addr) (n c : Nat) (why : Int) (l : List UInt8) : ∀ v ∈ #[Value.slice a n c, Value.int .i64 why], v ∉ bvs l := by
  intro v hv
  simp at hv
  rcases hv with rfl | rfl
  · exact not_mem_bvs (slice_ne_bv _ _ _) l
  · exact not_mem_bvs (i64_ne_bv _) l

/-- Whatever bytes are read elsewhere are read as before behind what a reader does. -/
theorem Rd.keeps {w w' : World} {g : Nat} {l : List UInt8} {why : Int} (h : Rd w g l why) (hg : w.grownBy w' (some g)) {a : Option Addr} {k : List UInt8} (hr : RdB w a k) : RdB w' a k := by
  obtain ⟨a0, c0, h0, _⟩ := h.row
  exact hr.grownNe h0 (rdCells_no _ _ _ _ _) hg

theorem Rd.lt {w : World} {g : Nat} {l : List UInt8} {why : Int} (h : Rd w g l why) : g < w.heap.size := by
  obtain ⟨a0, c0, h0, _⟩ := h.row
  exact (Array.getElem?_eq_some_iff.1 h0).1

/-- It stands as it stood where its block and all that was there has not turned. -/
theorem Rd.kept {w w' : World} {g : Nat} {l : List UInt8} {why : Int} (h : Rd w g l why) (hk : ∀ k, k < w.heap.size → w'.heap[k]? = w.heap[k]?) : Rd w' g l why := by
  obtain ⟨a0, c0, h0, h1, h2, h3⟩ := h.row
  exact ⟨⟨a0, c0, by rw [hk g h.lt]; exact h0, h1, h2.congr fun b _ _ hb => hk b hb, h3.congr fun b hb hx => by rw [hk b hb]; exact hx⟩, h.none, h.small⟩

theorem Rd.still {w w' : World} {g : Nat} {l : List UInt8} {why : Int} (h : Rd w g l why) (hs : Still w w') : Rd w' g l why := h.kept fun _ _ => by rw [hs.heap]

theorem Rd.alloc {w : World} {g : Nat} {l : List UInt8} {why : Int} (h : Rd w g l why) (o : Obj) : Rd (w.alloc o) g l why := h.kept fun _ hk => Below.heap_alloc _ _ _ hk

theorem Rd.below {w w' : World} {g : Nat} {l : List UInt8} {why : Int} (h : Rd w g l why) {B : Nat} (hb : Below B w w') (hB : w.heap.size ≤ B) : Rd w' g l why := h.kept fun k hk => hb.block k (Nat.lt_of_lt_of_le hk hB)

/-- .. and where another reader has been asked. -/
theorem Rd.other {w w' : World} {g g' : Nat} {l l' : List UInt8} {why why' : Int} (h : Rd w g l why) (h' : Rd w g' l' why') (hne : g ≠ g') (hg : w.grownBy w' (some g')) : Rd w' g l why := by
  obtain ⟨a0, c0, k0, k1, k2, k3⟩ := h.row
  obtain ⟨a1, c1, j0, _⟩ := h'.row
  exact ⟨⟨a0, c0, by rw [hg.block g h.lt (by intro e; cases e; exact hne rfl)]; exact k0, k1, h'.keeps hg k2, k3.typNe j0 (by decide) hg⟩, h.none, h.small⟩

/-- .. and where a block of another type alone has turned. -/
theorem Rd.typNe {w w' : World} {g : Nat} {l : List UInt8} {why : Int} (h : Rd w g l why) {z : Nat} {c : Array Value} {t : TypeId} {fr : Nat × Nat} (hz : w.heap[z]? = some (.cells c t fr)) (h1 : t ≠ 5) (h2 : t ≠ 121)
    (hg : w.grownBy w' (some z)) : Rd w' g l why := by
  obtain ⟨a0, c0, k0, k1, k2, k3⟩ := h.row
  have hne : g ≠ z := by intro e; subst e; rw [hz] at k0; cases k0; exact h2 rfl
  exact ⟨⟨a0, c0, by rw [hg.block g h.lt (by intro e; cases e; exact hne rfl)]; exact k0, k1, k2.typNe (by rw [bvs_length]; exact k3) hz h1 hg, k3.typNe hz h1 hg⟩, h.none, h.small⟩

set_option maxHeartbeats 400000 in
theorem packRead (a : Option Addr) (n c : Nat) (l : List UInt8) (w : World) (ha : RdB w a l) (e1 : l.length = n) (hn : n ≤ 1073741824) :
    Calls Tryd.prog 50 #[.slice a n c] w fun e w' => ∃ g, e = .returned (.pointer (some ⟨g, 0, none⟩)) ∧ Below w.heap.size w w' ∧ w.heap.size ≤ g ∧ Rd w' g l 0 := by
  go_enter Tryd.func50, Tryd.ntmps50
  (repeat' ((fail_if_success at_builtin); first | go_values | go_skip | go_guarded | go_step | go_upon))
  refine (bytesClone a n c l w ha e1 hn).mono ?_
  rintro _ w1 ⟨a1, c1, rfl, hc1, hr1, hB1, hO1⟩
  dsimp only
  (repeat' ((fail_if_success at_builtin); first | go_values | go_skip | go_guarded | go_step | go_upon))
  go_ret
  exact ⟨_, rfl, hB1.alloc hB1.size _, hB1.size, ⟨a1, c1, by rw [e1]; exact heap_alloc_new w1 _, by omega, hr1.alloc _, by rw [e1]; exact (typ_of_owns hO1).congr fun b hb hx => by rw [Below.heap_alloc _ _ _ hb]; exact hx⟩, fun h => absurd rfl h, by omega⟩

set_option maxHeartbeats 400000 in
theorem rdBad (g : Nat) (l : List UInt8) (why : Int) (w : World) (h : Rd w g l why) :
    Calls Tryd.prog 117 #[.pointer (some ⟨g, 0, none⟩)] w fun e w' => e = .returned (.bool (why != 0)) ∧ w = w' := by
  obtain ⟨a, c, hg, _⟩ := h.row
  have h1 := cell_of_row w g 1 _ _ _ hg
  go_enter Tryd.func117, Tryd.ntmps117
  (repeat' ((fail_if_success at_builtin); first | go_values | go_skip | go_guarded | go_step | go_upon))
  go_ret
  exact ⟨rfl, rfl⟩


set_option maxHeartbeats 400000 in
theorem rdEnd (g : Nat) (l : List UInt8) (why : Int) (w : World) (h : Rd w g l why) :
    Calls Tryd.prog 54 #[.pointer (some ⟨g, 0, none⟩)] w fun e w' => e = .returned (.int .i64 (if l = [] then why else 5)) ∧ w = w' := by
  obtain ⟨a, c, hg, _⟩ := h.row
  have h0 := cell_of_row w g 0 _ _ _ hg
  have h1 := cell_of_row w g 1 _ _ _ hg
  by_cases he : l = []
  · subst he
    go_enter Tryd.func54, Tryd.ntmps54
    (repeat' ((fail_if_success at_builtin); first | go_values | go_skip | go_guarded | go_step | go_upon))
    go_ret
    exact ⟨rfl, rfl⟩
  · have hp : 0 < l.length := List.length_pos_iff.2 he
    have HE := Lib.hid he; clear he
    go_enter Tryd.func54, Tryd.ntmps54
    (repeat' ((fail_if_success at_builtin); first | go_values | go_skip | go_guarded | go_step | go_upon))
    go_ret
    exact ⟨by rw [if_neg HE.out]; rfl, rfl⟩

set_option maxHeartbeats 400000 in
theorem rdStick (g : Nat) (l : List UInt8) (why e0 : Int) (w : World) (h : Rd w g l why) (_he0 : e0 ≠ 0) :
    Calls Tryd.prog 118 #[.pointer (some ⟨g, 0, none⟩), .int .i64 e0] w fun e w' => e = .returned (.tuple #[]) ∧ RdTo w g [] (if why = 0 then e0 else why) w' := by
  obtain ⟨a, c, hg, _⟩ := h.row
  have h0 := cell_of_row w g 0 _ _ _ hg
  have h1 := cell_of_row w g 1 _ _ _ hg
  have f0 := frozen_of_row w g 0 _ _ hg
  have f1 := frozen_of_row w g 1 _ _ hg
  by_cases hw : why = 0
  · have hb : (why == 0) = true := by simp [hw]
    have HW := Lib.hid hw; clear hw
    go_enter Tryd.func118, Tryd.ntmps118
    (repeat' ((fail_if_success at_builtin); first | go_values | go_skip | go_guarded | go_step | go_upon))
    go_end0
    refine ⟨rfl, grown_set (grown_set (World.grownBy.refl _ _) 1 _) 0 _, ?_⟩
    rw [if_pos HW.out]
    exact ⟨⟨none, 0, set_at (set_at hg 1 _) 0 _, Nat.le_refl _, RdC.nil _ _, fun h => by cases h⟩, fun _ => rfl, by simp⟩
  · have hb : (why == 0) = false := by simp [hw]
    have HW := Lib.hid hw; clear hw
    go_enter Tryd.func118, Tryd.ntmps118
    (repeat' ((fail_if_success at_builtin); first | go_values | go_skip | go_guarded | go_step | go_upon))
    go_end0
    refine ⟨rfl, World.grownBy.refl _ _, ?_⟩
    rw [if_neg HW.out]
    have := h.none HW.out
    subst this
    exact h

set_option maxHeartbeats 400000 in
theorem rdTakeT_yes (g n : Nat) (l : List UInt8) (why : Int) (w : World) (h : Rd w g l why) (hn : n ≤ l.length) :
    Calls Tryd.prog 98 #[.pointer (some ⟨g, 0, none⟩), .int .i64 n] w fun e w' => ∃ a, e = .returned (.slice a n n) ∧ (RdB w' a (l.take n) ∧ Typ w' 5 a n) ∧ RdTo w g (l.drop n) why w' := by
  have hm := h.small
  obtain ⟨a, c, hg, hc, hr, ht⟩ := h.row
  have h0 := cell_of_row w g 0 _ _ _ hg
  have f0 := frozen_of_row w g 0 _ _ hg
  go_enter Tryd.func98, Tryd.ntmps98
  (repeat' ((fail_if_success at_builtin); first | go_values | go_skip | go_guarded | go_step | go_upon))
  go_ret
  refine ⟨a, rfl, ⟨?_, (ht.less (n' := n) (by omega) (fun _ => ⟨0, by cases a <;> rfl⟩)).typNe hg (by decide) (grown_set (World.grownBy.refl _ _) 0 _)⟩, grown_set (World.grownBy.refl _ _) 0 _, ⟨⟨if c = n then a else a.map (fun x => x.add n), c - n, ?_, ?_, ?_, ?_⟩, fun hh => by rw [h.none hh]; simp, by have := h.small; rw [List.length_drop]; omega⟩⟩
  · exact (hr.takeB n).grownNe hg (rdCells_no _ _ _ _ _) (grown_set (World.grownBy.refl _ _) 0 _)
  · rw [List.length_drop]; exact set_at hg 0 _
  · rw [List.length_drop]; omega
  · exact (hr.dropB n (fun hh => by rw [if_neg (by omega)])).grownNe hg (rdCells_no _ _ _ _ _) (grown_set (World.grownBy.refl _ _) 0 _)
  · refine (ht.less (n' := (l.drop n).length) (by rw [List.length_drop]; omega) (fun h0 => ⟨n, ?_⟩)).typNe hg (by decide) (grown_set (World.grownBy.refl _ _) 0 _)
    rw [List.length_drop] at h0
    rw [if_neg (by omega)]

theorem rdTake_yes (g n : Nat) (l : List UInt8) (why : Int) (w : World) (h : Rd w g l why) (hn : n ≤ l.length) :
    Calls Tryd.prog 98 #[.pointer (some ⟨g, 0, none⟩), .int .i64 n] w fun e w' => ∃ a, e = .returned (.slice a n n) ∧ RdB w' a (l.take n) ∧ RdTo w g (l.drop n) why w' :=
  (rdTakeT_yes g n l why w h hn).mono fun _ _ ⟨a, h1, h2, h3⟩ => ⟨a, h1, h2.1, h3⟩

set_option maxHeartbeats 400000 in
theorem rdTake_no (g n : Nat) (l : List UInt8) (why : Int) (w : World) (h : Rd w g l why) (hn : l.length < n) :
    Calls Tryd.prog 98 #[.pointer (some ⟨g, 0, none⟩), .int .i64 n] w fun e w' => e = .returned (.slice none 0 0) ∧ RdTo w g [] (if why = 0 then 4 else why) w' := by
  obtain ⟨a, c, hg, hc, hr, ht⟩ := h.row
  have h0 := cell_of_row w g 0 _ _ _ hg
  have f0 := frozen_of_row w g 0 _ _ hg
  go_enter Tryd.func98, Tryd.ntmps98
  (repeat' ((fail_if_success at_builtin); first | go_values | go_skip | go_guarded | go_step | go_upon))
  refine (rdStick g l why 4 w h (by decide)).mono ?_
  rintro _ w1 ⟨rfl, h1⟩
  dsimp only
  (repeat' ((fail_if_success at_builtin); first | go_values | go_skip | go_guarded | go_step | go_upon))
  go_ret
  exact ⟨rfl, h1⟩

/-- The number that bytes are, high byte first. -/
def beU (l : List UInt8) : Nat := l.foldl (fun n c => n * 256 + c.toNat) 0

theorem beU_snoc (l : List UInt8) (c : UInt8) : beU (l ++ [c]) = beU l * 256 + c.toNat := by simp [beU]
theorem beU_lt (l : List UInt8) : beU l < 256 ^ l.length := by
  have key : ∀ (k : Nat) (l : List UInt8), l.length = k → beU l < 256 ^ k := by
    intro k
    induction k with
    | zero => intro l hl; rw [List.eq_nil_of_length_eq_zero hl]; simp [beU]
    | succ k ih =>
      intro l hl
      have hne : l ≠ [] := by intro e; subst e; simp at hl
      have h1 := ih l.dropLast (by simp [hl])
      rw [← List.dropLast_concat_getLast hne, beU_snoc, Nat.pow_succ]
      have h2 := (l.getLast hne).toNat_lt
      generalize 256 ^ k = p at *
      omega
  exact key _ l rfl

theorem be_step (t : List UInt8) (k : Nat) (h : k < t.length) (x : UInt8) (hx : t[k] = x) : beU (t.take (k + 1)) = beU (t.take k) * 256 + x.toNat := by
  rw [List.take_succ_eq_append_getElem h, beU_snoc, hx]

theorem or256 (x c : Nat) (hx : x * 256 + c < 18446744073709551616) (hc : c < 256) : bits .or .u64 (IntKind.u64.wrap ((x : Int) * 256)) (IntKind.u64.wrap (c : Int)) = ((x * 256 + c : Nat) : Int) := by
  have h1 : IntKind.u64.wrap ((x : Int) * 256) = ((x * 256 : Nat) : Int) := by rw [IntWalk.u64_in _ (by omega)]; omega
  have h2 : IntKind.u64.wrap (c : Int) = (c : Int) := IntWalk.u64_in _ (by omega)
  have h3 := bits_or_u64_nat (x * 256) c (Nat.lt_of_le_of_lt (Nat.le_add_right _ c) hx) (Nat.lt_of_le_of_lt (Nat.le_add_left c (x * 256)) hx)
  rw [h1, h2, h3]
  have := Nat.shiftLeft_add_eq_or_of_lt (i := 8) (b := c) (by omega) x
  rw [Nat.shiftLeft_eq] at this
  rw [← this]

set_option maxHeartbeats 400000 in
theorem rdInt_yes (g : Nat) (l : List UInt8) (why : Int) (w : World) (h : Rd w g l why) (hn : 8 ≤ l.length) :
    Calls Tryd.prog 53 #[.pointer (some ⟨g, 0, none⟩)] w fun e w' => e = .returned (.int .i64 (wrap64 (beU (l.take 8)))) ∧ RdTo w g (l.drop 8) why w' := by
  go_enter Tryd.func53, Tryd.ntmps53
  (repeat' ((fail_if_success at_builtin); first | go_values | go_skip | go_guarded | go_step | go_upon))
  refine (rdTake_yes g 8 l why w h hn).mono ?_
  rintro _ w1 ⟨a, rfl, hr, h1⟩
  dsimp only
  (repeat' ((fail_if_success at_builtin); first | go_values | go_skip | go_guarded | go_step | go_upon))
  go_loop [3, 9] (fun v i => ∃ k : Nat, k ≤ 8 ∧ i = .int .i64 k ∧ v = .int .u64 (beU ((l.take 8).take k))) (fun _ i => 8 - (intOf i).toNat)
  case atStart => exact ⟨0, by omega, rfl, by simp [beU]⟩
  case round =>
    obtain ⟨k, hk, rfl, rfl⟩ := hrel
    by_cases hlt : k < 8
    · have hl8 : (l.take 8).length = 8 := by simp; omega
      obtain ⟨b, o, rfl, hc⟩ := hr.byte k (by omega)
      have hbd := beU_lt ((l.take 8).take k)
      generalize hx : (l.take 8)[k] = x at *
      have HS := Lib.hid (be_step (l.take 8) k (by omega) x hx)
      clear hx
      have hp : 256 ^ ((l.take 8).take k).length ≤ 256 ^ 7 := Nat.pow_le_pow_right (by omega) (by simp; omega)
      have HO := Lib.hid (or256 (beU ((l.take 8).take k)) x.toNat (by have := x.toNat_lt; omega) x.toNat_lt)
      clear hbd hp
      (repeat' ((fail_if_success at_builtin); first | go_values | go_skip | go_guarded | go_step | go_upon))
      go_round
      case rel =>
        refine ⟨k + 1, by omega, by go_num, ?_⟩
        rw [HO.out, HS.out]
      case measure => simp [intOf]; omega
    · (repeat' ((fail_if_success at_builtin); first | go_values | go_skip | go_guarded | go_step | go_upon))
      go_ret
      obtain rfl : k = 8 := by omega
      exact ⟨by rw [List.take_of_length_le (by simp; omega)]; rfl, h1⟩

set_option maxHeartbeats 400000 in
theorem rdInt_no (g : Nat) (l : List UInt8) (why : Int) (w : World) (h : Rd w g l why) (hn : l.length < 8) :
    Calls Tryd.prog 53 #[.pointer (some ⟨g, 0, none⟩)] w fun e w' => e = .returned (.int .i64 0) ∧ RdTo w g [] (if why = 0 then 4 else why) w' := by
  go_enter Tryd.func53, Tryd.ntmps53
  (repeat' ((fail_if_success at_builtin); first | go_values | go_skip | go_guarded | go_step | go_upon))
  refine (rdTake_no g 8 l why w h hn).mono ?_
  rintro _ w1 ⟨rfl, h1⟩
  dsimp only
  (repeat' ((fail_if_success at_builtin); first | go_values | go_skip | go_guarded | go_step | go_upon))
  refine wp_loop_once ?_
  (repeat' ((fail_if_success at_builtin); first | go_values | go_skip | go_guarded | go_step | go_upon))
  go_ret
  exact ⟨rfl, h1⟩

/-- What a reader that stands so answers, and how it stands then: the bytes that are left, the error. -/
def rsInt (l : List UInt8) (why : Int) : Int × List UInt8 × Int := if 8 ≤ l.length then (wrap64 (beU (l.take 8)), l.drop 8, why) else (0, [], if why = 0 then 4 else why)

theorem rdInt (g : Nat) (l : List UInt8) (why : Int) (w : World) (h : Rd w g l why) :
    Calls Tryd.prog 53 #[.pointer (some ⟨g, 0, none⟩)] w fun e w' => e = .returned (.int .i64 (rsInt l why).1) ∧ RdTo w g (rsInt l why).2.1 (rsInt l why).2.2 w' := by
  by_cases hn : 8 ≤ l.length
  · unfold rsInt; rw [if_pos hn]; exact rdInt_yes g l why w h hn
  · unfold rsInt; rw [if_neg hn]; exact rdInt_no g l why w h (by omega)

def rsCount (most : Int) (l : List UInt8) (why : Int) : Int × List UInt8 × Int :=
  let r := rsInt l why
  if r.2.2 = 0 then (if r.1 < 0 ∨ most < r.1 then (0, [], 3) else (r.1, r.2.1, 0)) else (0, r.2.1, r.2.2)

theorem rsInt_none (l : List UInt8) (why : Int) (h : why ≠ 0 → l = []) : (rsInt l why).2.2 ≠ 0 → (rsInt l why).2.1 = [] := by
  unfold rsInt
  split
  · rename_i hl
    intro hw
    have := h hw
    subst this
    simp at hl
  · intro _; rfl

set_option maxHeartbeats 400000 in
theorem rdCount (g : Nat) (most : Int) (l : List UInt8) (why : Int) (w : World) (h : Rd w g l why) :
    Calls Tryd.prog 116 #[.pointer (some ⟨g, 0, none⟩), .int .i64 most] w fun e w' => e = .returned (.int .i64 (rsCount most l why).1) ∧ RdTo w g (rsCount most l why).2.1 (rsCount most l why).2.2 w' := by
  have hd : rsCount most l why = (if (rsInt l why).2.2 = 0 then (if (rsInt l why).1 < 0 ∨ most < (rsInt l why).1 then (0, [], 3) else ((rsInt l why).1, (rsInt l why).2.1, 0)) else (0, (rsInt l why).2.1, (rsInt l why).2.2)) := rfl
  have hi := rdInt g l why w h
  generalize rsCount most l why = r at *
  generalize rsInt l why = s at *
  obtain ⟨n, l1, y1⟩ := s
  simp only at hd hi
  have HI := Lib.hid hi; clear hi
  by_cases hy : y1 = 0
  · subst hy
    by_cases h1 : n < 0
    · rw [if_pos rfl, if_pos (.inl h1)] at hd
      subst hd
      go_enter Tryd.func116, Tryd.ntmps116
      (repeat' ((fail_if_success at_builtin); first | go_values | go_skip | go_guarded | go_step | go_upon))
      refine (HI.out).mono ?_
      rintro _ w1 ⟨rfl, hg1, hr1⟩
      dsimp only
      obtain ⟨a1, c1, hh, _⟩ := hr1.row
      have k1 := cell_of_row w1 g 1 _ _ _ hh
      (repeat' ((fail_if_success at_builtin); first | go_values | go_skip | go_guarded | go_step | go_upon))
      refine (rdStick g _ 0 3 w1 hr1 (by decide)).mono ?_
      rintro _ w2 ⟨rfl, hg2, hr2⟩
      dsimp only
      (repeat' ((fail_if_success at_builtin); first | go_values | go_skip | go_guarded | go_step | go_upon))
      refine (rdBad g _ _ w2 hr2).mono ?_
      rintro _ w2' ⟨rfl, rfl⟩
      dsimp only
      (repeat' ((fail_if_success at_builtin); first | go_values | go_skip | go_guarded | go_step | go_upon))
      go_ret
      exact ⟨rfl, hg1.trans hg2, hr2⟩
    · by_cases h2 : most < n
      · rw [if_pos rfl, if_pos (.inr h2)] at hd
        subst hd
        go_enter Tryd.func116, Tryd.ntmps116
        (repeat' ((fail_if_success at_builtin); first | go_values | go_skip | go_guarded | go_step | go_upon))
        refine (HI.out).mono ?_
        rintro _ w1 ⟨rfl, hg1, hr1⟩
        dsimp only
        obtain ⟨a1, c1, hh, _⟩ := hr1.row
        have k1 := cell_of_row w1 g 1 _ _ _ hh
        (repeat' ((fail_if_success at_builtin); first | go_values | go_skip | go_guarded | go_step | go_upon))
        refine (rdStick g _ 0 3 w1 hr1 (by decide)).mono ?_
        rintro _ w2 ⟨rfl, hg2, hr2⟩
        dsimp only
        (repeat' ((fail_if_success at_builtin); first | go_values | go_skip | go_guarded | go_step | go_upon))
        refine (rdBad g _ _ w2 hr2).mono ?_
        rintro _ w2' ⟨rfl, rfl⟩
        dsimp only
        (repeat' ((fail_if_success at_builtin); first | go_values | go_skip | go_guarded | go_step | go_upon))
        go_ret
        exact ⟨rfl, hg1.trans hg2, hr2⟩
      · rw [if_pos rfl, if_neg (by omega)] at hd
        subst hd
        go_enter Tryd.func116, Tryd.ntmps116
        (repeat' ((fail_if_success at_builtin); first | go_values | go_skip | go_guarded | go_step | go_upon))
        refine (HI.out).mono ?_
        rintro _ w1 ⟨rfl, hg1, hr1⟩
        dsimp only
        obtain ⟨a1, c1, hh, _⟩ := hr1.row
        have k1 := cell_of_row w1 g 1 _ _ _ hh
        (repeat' ((fail_if_success at_builtin); first | go_values | go_skip | go_guarded | go_step | go_upon))
        refine (rdBad g _ _ w1 hr1).mono ?_
        rintro _ w2' ⟨rfl, rfl⟩
        dsimp only
        (repeat' ((fail_if_success at_builtin); first | go_values | go_skip | go_guarded | go_step | go_upon))
        go_ret
        exact ⟨rfl, hg1, hr1⟩
  · rw [if_neg hy] at hd
    subst hd
    have hb : (y1 == 0) = false := by simp [hy]
    have hb2 : (y1 != 0) = true := by simp [hy]
    clear hy
    go_enter Tryd.func116, Tryd.ntmps116
    (repeat' ((fail_if_success at_builtin); first | go_values | go_skip | go_guarded | go_step | go_upon))
    refine (HI.out).mono ?_
    rintro _ w1 ⟨rfl, hg1, hr1⟩
    dsimp only
    obtain ⟨a1, c1, hh, _⟩ := hr1.row
    have k1 := cell_of_row w1 g 1 _ _ _ hh
    (repeat' ((fail_if_success at_builtin); first | go_values | go_skip | go_guarded | go_step | go_upon))
    refine (rdBad g _ _ w1 hr1).mono ?_
    rintro _ w2' ⟨rfl, rfl⟩
    dsimp only
    (repeat' ((fail_if_success at_builtin); first | go_values | go_skip | go_guarded | go_step | go_upon))
    go_ret
    exact ⟨rfl, hg1, hr1⟩

def rsBlob (most : Int) (l : List UInt8) (why : Int) : List UInt8 × List UInt8 × Int :=
  let c := rsCount most l why
  if c.2.2 = 0 then (if c.1.toNat ≤ c.2.1.length then (c.2.1.take c.1.toNat, c.2.1.drop c.1.toNat, 0) else ([], [], 4)) else ([], c.2.1, c.2.2)

theorem rsCount_ge (most : Int) (l : List UInt8) (why : Int) : 0 ≤ (rsCount most l why).1 := by
  unfold rsCount
  simp only
  split
  · split
    · exact Int.le_refl _
    · rename_i h1; simp only; omega
  · exact Int.le_refl _

/-- Bytes that are read, somewhere. -/
def SomeB (w' : World) (l : List UInt8) (e : Ending) : Prop := ∃ a c, e = .returned (.slice a l.length c) ∧ l.length ≤ c ∧ RdB w' a l

/-- .. with their number. -/
def SomeN (w' : World) (n : Nat) (l : List UInt8) (e : Ending) : Prop := ∃ a c, e = .returned (.slice a n c) ∧ n ≤ c ∧ RdB w' a l
theorem SomeB.num {w' : World} {l : List UInt8} {e : Ending} (h : SomeB w' l e) {n : Nat} (hn : l.length = n) : SomeN w' n l e := by subst hn; exact h

/-- .. in memory for bytes. -/
def SomeT (w' : World) (l : List UInt8) (e : Ending) : Prop := ∃ a c, e = .returned (.slice a l.length c) ∧ l.length ≤ c ∧ RdB w' a l ∧ Typ w' 5 a l.length

set_option maxHeartbeats 400000 in
theorem rdBlobT (g : Nat) (most : Int) (l : List UInt8) (why : Int) (w : World) (h : Rd w g l why) :
    Calls Tryd.prog 97 #[.pointer (some ⟨g, 0, none⟩), .int .i64 most] w fun e w' => SomeT w' (rsBlob most l why).1 e ∧ RdTo w g (rsBlob most l why).2.1 (rsBlob most l why).2.2 w' := by
  have hd : rsBlob most l why = (if (rsCount most l why).2.2 = 0 then (if (rsCount most l why).1.toNat ≤ (rsCount most l why).2.1.length then ((rsCount most l why).2.1.take (rsCount most l why).1.toNat, (rsCount most l why).2.1.drop (rsCount most l why).1.toNat, 0) else ([], [], 4)) else ([], (rsCount most l why).2.1, (rsCount most l why).2.2)) := rfl
  have hi := rdCount g most l why w h
  have hge := rsCount_ge most l why
  generalize rsBlob most l why = r at *
  generalize rsCount most l why = s at *
  obtain ⟨n, l1, y1⟩ := s
  simp only at hd hi hge
  have HI := Lib.hid hi; clear hi
  obtain ⟨k, rfl⟩ := Int.eq_ofNat_of_zero_le hge
  rw [Int.toNat_natCast] at hd
  by_cases hy : y1 = 0
  · subst hy
    by_cases hk : k ≤ l1.length
    · rw [if_pos rfl, if_pos hk] at hd
      subst hd
      go_enter Tryd.func97, Tryd.ntmps97
      (repeat' ((fail_if_success at_builtin); first | go_values | go_skip | go_guarded | go_step | go_upon))
      refine (HI.out).mono ?_
      rintro _ w1 ⟨rfl, hg1, hr1⟩
      dsimp only
      (repeat' ((fail_if_success at_builtin); first | go_values | go_skip | go_guarded | go_step | go_upon))
      refine (rdBad g _ _ w1 hr1).mono ?_
      rintro _ w2' ⟨rfl, rfl⟩
      dsimp only
      (repeat' ((fail_if_success at_builtin); first | go_values | go_skip | go_guarded | go_step | go_upon))
      refine (rdTakeT_yes g k l1 0 w1 hr1 hk).mono ?_
      rintro _ w2 ⟨a, rfl, ⟨hr, hty⟩, hg2, hr2⟩
      dsimp only
      (repeat' ((fail_if_success at_builtin); first | go_values | go_skip | go_guarded | go_step | go_upon))
      go_ret
      exact ⟨⟨a, k, by simp [Nat.min_eq_left hk], by simp; omega, hr, by rw [List.length_take, Nat.min_eq_left hk]; exact hty⟩, hg1.trans hg2, hr2⟩
    · rw [if_pos rfl, if_neg hk] at hd
      subst hd
      go_enter Tryd.func97, Tryd.ntmps97
      (repeat' ((fail_if_success at_builtin); first | go_values | go_skip | go_guarded | go_step | go_upon))
      refine (HI.out).mono ?_
      rintro _ w1 ⟨rfl, hg1, hr1⟩
      dsimp only
      (repeat' ((fail_if_success at_builtin); first | go_values | go_skip | go_guarded | go_step | go_upon))
      refine (rdBad g _ _ w1 hr1).mono ?_
      rintro _ w2' ⟨rfl, rfl⟩
      dsimp only
      (repeat' ((fail_if_success at_builtin); first | go_values | go_skip | go_guarded | go_step | go_upon))
      refine (rdTake_no g k l1 0 w1 hr1 (by omega)).mono ?_
      rintro _ w2 ⟨rfl, hg2, hr2⟩
      dsimp only
      (repeat' ((fail_if_success at_builtin); first | go_values | go_skip | go_guarded | go_step | go_upon))
      go_ret
      exact ⟨⟨none, 0, rfl, Nat.le_refl _, RdC.nil _ _, fun h0 => absurd h0 (by simp)⟩, hg1.trans hg2, hr2⟩
  · rw [if_neg hy] at hd
    subst hd
    have hb2 : (y1 != 0) = true := by simp [hy]
    clear hy
    go_enter Tryd.func97, Tryd.ntmps97
    (repeat' ((fail_if_success at_builtin); first | go_values | go_skip | go_guarded | go_step | go_upon))
    refine (HI.out).mono ?_
    rintro _ w1 ⟨rfl, hg1, hr1⟩
    dsimp only
    (repeat' ((fail_if_success at_builtin); first | go_values | go_skip | go_guarded | go_step | go_upon))
    refine (rdBad g _ _ w1 hr1).mono ?_
    rintro _ w2' ⟨rfl, rfl⟩
    dsimp only
    (repeat' ((fail_if_success at_builtin); first | go_values | go_skip | go_guarded | go_step | go_upon))
    go_ret
    exact ⟨⟨none, 0, rfl, Nat.le_refl _, RdC.nil _ _, fun h0 => absurd h0 (by simp)⟩, hg1, hr1⟩

theorem rdBlob (g : Nat) (most : Int) (l : List UInt8) (why : Int) (w : World) (h : Rd w g l why) :
    Calls Tryd.prog 97 #[.pointer (some ⟨g, 0, none⟩), .int .i64 most] w fun e w' => SomeB w' (rsBlob most l why).1 e ∧ RdTo w g (rsBlob most l why).2.1 (rsBlob most l why).2.2 w' :=
  (rdBlobT g most l why w h).mono fun _ _ ⟨⟨a, c, h1, h2, h3, _⟩, h4⟩ => ⟨⟨a, c, h1, h2, h3⟩, h4⟩

set_option maxHeartbeats 400000 in
theorem rdText (g : Nat) (most : Int) (l : List UInt8) (why : Int) (w : World) (h : Rd w g l why) :
    Calls Tryd.prog 52 #[.pointer (some ⟨g, 0, none⟩), .int .i64 most] w fun e w' => e = .returned (.string ⟨(rsBlob most l why).1.toArray⟩) ∧ RdTo w g (rsBlob most l why).2.1 (rsBlob most l why).2.2 w' := by
  have hi := rdBlob g most l why w h
  generalize rsBlob most l why = r at *
  have HI := Lib.hid hi; clear hi
  go_enter Tryd.func52, Tryd.ntmps52
  (repeat' ((fail_if_success at_builtin); first | go_values | go_skip | go_guarded | go_step | go_upon))
  refine (HI.out).mono ?_
  rintro _ w1 ⟨⟨a, c, rfl, hc, hr⟩, hg1, hr1⟩
  dsimp only
  have hcv := convStr (P := Tryd.prog) (c := c) Tryd.underlying22 Tryd.underlying5 Tryd.underlying9 hr rfl
  (repeat' ((fail_if_success at_builtin); first | go_values | go_skip | go_guarded | go_step | go_upon))
  go_ret
  exact ⟨rfl, hg1, hr1⟩

def z32 : Array Value := #[.int .u8 0, .int .u8 0, .int .u8 0, .int .u8 0, .int .u8 0, .int .u8 0, .int .u8 0, .int .u8 0, .int .u8 0, .int .u8 0, .int .u8 0, .int .u8 0, .int .u8 0, .int .u8 0, .int .u8 0, .int .u8 0, .int .u8 0, .int .u8 0, .int .u8 0, .int .u8 0, .int .u8 0, .int .u8 0, .int .u8 0, .int .u8 0, .int .u8 0, .int .u8 0, .int .u8 0, .int .u8 0, .int .u8 0, .int .u8 0, .int .u8 0, .int .u8 0]
theorem z32_eq : z32 = (bvs (List.replicate 32 0)).toArray := rfl

def rsSum (l : List UInt8) (why : Int) : List UInt8 × List UInt8 × Int := if 32 ≤ l.length then (l.take 32, l.drop 32, why) else (List.replicate 32 0, [], if why = 0 then 4 else why)




theorem packText' (a : Option Addr) (n m c : Nat) (l k : List UInt8) (w : World) (ha : RdB w a l) (e1 : l.length = n) (ek : k.length = m) (hn : n ≤ 1000000000) (hm : m ≤ 1073741824) :
    Calls Tryd.prog 96 #[.slice a n c, .string ⟨k.toArray⟩] w (GotB w (n + 8 + m) (l ++ be8 m ++ k)) := by
  subst ek
  have e : (⟨k.toArray⟩ : ByteArray).size = k.length := by show k.toArray.size = _; simp
  have h := packText a n c l ⟨k.toArray⟩ w ha e1 hn (by rw [e]; exact hm)
  rw [e] at h
  exact h

end Go.Proofs.YtdpfemhfmofmlaaDoor
