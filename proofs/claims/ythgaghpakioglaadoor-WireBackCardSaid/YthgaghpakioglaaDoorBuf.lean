/- A bytes.Buffer that is the first field of a wire.In, written and read: its cells, and its methods, one contract each. -/
import Derived.Test.YthgaghpakioglaaDoorKit
import Derived.Test.YthgaghpakioglaaDoorWord
import Derived.BigRegion
import Derived.RegionTactic
import Derived.Lib.Buffer
import Derived.Lib.BufferGrow
import Derived.Lib.AppendZeros
import Derived.Lib.ByteType
import Derived.Shelf.Abstract
import Derived.Lib.Walk
import Derived.Laws.CopyRow
import Derived.Laws.IdiomCopy
import Derived.OwnWalk
import Derived.Defers
import Derived.Recover
namespace Go.Proofs.YthgaghpakioglaaDoor
set_option linter.unusedSimpArgs false
set_option linter.unusedVariables false
open Go.RowKit
set_option maxRecDepth 10000

/-- A reader at block g: its row lies in block r (none: no row yet), the bytes l are left, br: it is broken. -/
structure In (w : World) (g : Nat) (r : Option Nat) (l : List UInt8) (br : Bool) : Prop where
  out : ∃ (n c off : Nat) (lr : Int) (cur : Array Value), w.heap[g]? = some (.cells #[.slice (r.map fun k => ⟨k, 0, none⟩) n c, .int .i64 off, .int .i8 lr, .bool br] 62 (0, 0)) ∧ l.length = n - off ∧ off ≤ n ∧ n ≤ c ∧ c ≤ 9223372036854775807 ∧
    (∀ k, r = some k → k ≠ g ∧ w.heap[k]? = some (.cells cur 5 (0, 0)) ∧ cur.size = c ∧ (cur.toList.take n).drop off = bvs l) ∧ (r = none → c = 0)

theorem In.lt {w : World} {g : Nat} {r : Option Nat} {l : List UInt8} {br : Bool} (h : In w g r l br) : g < w.heap.size := by
  obtain ⟨_, _, _, _, _, h1, _⟩ := h.out
  exact (Array.getElem?_eq_some_iff.1 h1).1
theorem In.rlt {w : World} {g k : Nat} {l : List UInt8} {br : Bool} (h : In w g (some k) l br) : k < w.heap.size := by
  obtain ⟨_, _, _, _, _, _, _, _, _, _, h2, _⟩ := h.out
  exact (Array.getElem?_eq_some_iff.1 (h2 k rfl).2.1).1

/-- Other blocks turn, not those of the reader. -/
theorem In.keeps {w w' : World} {g : Nat} {r : Option Nat} {l : List UInt8} {br : Bool} (h : In w g r l br) (hg : w'.heap[g]? = w.heap[g]?) (hr : ∀ k, r = some k → w'.heap[k]? = w.heap[k]?) : In w' g r l br := by
  obtain ⟨n, c, off, lr, cur, h1, h2, h3, h4, h5, h6, h7⟩ := h.out
  exact ⟨⟨n, c, off, lr, cur, hg.trans h1, h2, h3, h4, h5, fun k e => ⟨(h6 k e).1, (hr k e).trans (h6 k e).2.1, (h6 k e).2.2⟩, h7⟩⟩
theorem In.below {w w' : World} {g : Nat} {r : Option Nat} {l : List UInt8} {br : Bool} (h : In w g r l br) (hb : Below w.heap.size w w') : In w' g r l br :=
  h.keeps (hb.block g h.lt) (fun k e => by subst e; exact hb.block k h.rlt)

/-- What a method of the reader may turn: its own block, and the row. -/
abbrev InF (g : Nat) (r : Option Nat) (w w' : World) : Prop := Frm w.heap.size (fun k => k = g ∨ r = some k) w w'
/-- The row behind it: the same one, or a new one. -/
def NewRow (w : World) (r r' : Option Nat) : Prop := r' = r ∨ ∃ k, r' = some k ∧ w.heap.size ≤ k

set_option maxHeartbeats 1000000 in
theorem bufLen (g : Nat) (r : Option Nat) (l : List UInt8) (br : Bool) (w : World) (h : In w g r l br) :
    Calls Tryd.prog 30 #[.pointer (some ⟨g, 0, none⟩)] w fun e w' => e = .returned (.int .i64 l.length) ∧ Still w w' := by
  obtain ⟨n, c, off, lr, cur, h1, h2, h3, h4, h5, h6, h7⟩ := h.out
  have c0 := cell_of_row w g 0 _ _ _ h1
  have c1 := cell_of_row w g 1 _ _ _ h1
  have e1 : (n : Int) - (off : Int) = (l.length : Int) := by omega
  go_enter Tryd.func30, Tryd.ntmps30
  (repeat' ((fail_if_success at_builtin); first | go_values | go_skip | go_guarded | go_step | go_upon))
  go_region
  (repeat' ((fail_if_success at_builtin); first | go_values | go_skip | go_guarded | go_step | go_upon))
  go_ret
  exact ⟨by rw [h2]; rfl, ⟨rfl, fun B => (Below.refl B w).drew⟩⟩

theorem hszB : (Tryd.prog.info? 5).map (·.size) = some 1 := by kernel_rfl

theorem in_rd {w : World} {k n off : Nat} {cur : Array Value} {l : List UInt8} {t : TypeId} {fr : Nat × Nat} (hg : w.heap[k]? = some (.cells cur t fr)) (h : (cur.toList.take n).drop off = bvs l) : RdB w (some ⟨k, off, none⟩) l :=
  ⟨fun i hi => ⟨_, _, rfl, by
    rw [cell_of_row w k (off + i) _ _ _ hg, ← h, List.getElem?_drop]
    have hi' : off + i < (cur.toList.take n).length := by
      have : (bvs l).length = ((cur.toList.take n).drop off).length := by rw [h]
      rw [List.length_drop] at this
      omega
    rw [List.length_take] at hi'
    rw [List.getElem?_take_of_lt (by omega), Array.getElem?_toList]⟩⟩

theorem catchIdle (w : World) : CallsD Tryd.prog 39 #[] .returning w fun e u' w' => e = .returned (.tuple #[]) ∧ u' = .returning ∧ w' = w := by
  have hnn : ∀ w, (binOp .neq 20 .nilIface .nilIface).run Tryd.prog w = .ok (.bool false) w := fun w => Lib.run_neq_nil_nil w Tryd.underlying20
  refine callsD_of_wpS Tryd.func39 rfl fun c₀ cs hu => ?_
  apply wpS_seq
  apply wpS_region
  simp [wpOpsS, go_sem, recoverD, hu, hnn, Tryd.ntmps39, Exit.thenS]
  refine wpS_cond (t := false) (by simp [Act.eval, Array.replicate]) ?_
  simp only [Bool.false_eq_true, if_false]
  refine wpS_of_wp (wp_skip ?_)
  cases c₀
  simp_all [bodyPostS, results, (show Tryd.f39.results = #[] from rfl)]

set_option maxHeartbeats 6400000 in
set_option maxRecDepth 100000 in
theorem growSlice (b off c n C : Nat) (L : List UInt8) (w : World) (hr : RdB w (some ⟨b, off, none⟩) L) (hbl : b < w.heap.size) (hlc : L.length ≤ c) (hn : 1 ≤ n) (hlim : L.length + n ≤ 10000000) (hc2 : c ≤ 10000000) (hC : C = if L.length + n < 2 * c then 2 * c else L.length + n) :
    Calls Tryd.prog 38 #[.slice (some ⟨b, off, none⟩) L.length c, .int .i64 n] w fun e w' => ∃ cap2 cells, e = .returned (.slice (some ⟨w.heap.size, 0, none⟩) L.length cap2) ∧ w'.heap[w.heap.size]? = some (.cells cells 5 (0, 0)) ∧
      cells.size = cap2 ∧ cells.toList.take L.length = bvs L ∧ L.length + n ≤ cap2 ∧ cap2 ≤ maxLen ∧ Below w.heap.size w w' := by
  obtain ⟨i0, hi, hz0, hz1, hz2⟩ := info_parts u8Info
  have hCb : L.length + n ≤ C ∧ C ≤ 30000000 := by rw [hC]; split <;> omega
  have happ := Lib.run_append_nil_zeros (P := Tryd.prog) w 22 3 22 5 i0 (.int .u8 0) .i64 .i64 Tryd.underlying22 Tryd.underlying3 hi hz0 C (by omega) (by omega) (by omega) (by rw [hz2]; omega)
  generalize hcap : grownCap w C 0 5 = cap2 at happ
  have hcapge : C ≤ cap2 := by rw [← hcap]; exact grownCap_ge w _ 0 5
  have hcaple : cap2 ≤ maxLen := by rw [← hcap]; exact grownCap_le_maxLen w _ 0 5 (by unfold maxLen; omega)
  generalize hZ : (Builtin.zeroCells (Value.int .u8 0).cells C ++ Builtin.zeroCells (Value.int .u8 0).cells (cap2 - C)) = Z at happ
  have hZs : Z.size = cap2 := by rw [← hZ]; simp [size_zeroCells, Value.cells]; omega
  clear hcap hZ
  have hxl : (bvs L).length = L.length := bvs_length L
  have hcopy := run_copy_row (P := Tryd.prog) (w.alloc (.cells Z 5)).drew 22 22 3 5 w.heap.size 0 C cap2 ⟨b, off, none⟩ L.length c Z 5 (bvs L) Tryd.underlying22 hszB (heap_alloc_new w _) (by rw [hxl]; exact (Nat.min_eq_left (by omega)).symm)
    (fun j v hj => by
      rw [Lib.addr_add]
      have hjl : j < (bvs L).length := (List.getElem?_eq_some_iff.1 hj).1
      have h1 := (hr.alloc (.cells Z 5)).cell j hjl
      rw [List.getElem?_eq_getElem hjl] at hj
      rw [← hj]
      exact h1) (by rw [hxl]; omega) (bvs_oneCell L)
  rw [hxl] at hcopy
  generalize hY : (Z.toList.take 0 ++ bvs L ++ Z.toList.drop (0 + L.length)).toArray = Y at hcopy
  have hYl : Y.toList = bvs L ++ Z.toList.drop L.length := by rw [← hY]; simp
  have HEND : ∃ cap3 cells, Value.slice (some ⟨w.heap.size, 0, none⟩) L.length cap2 = .slice (some ⟨w.heap.size, 0, none⟩) L.length cap3 ∧ ((w.alloc (.cells Z 5)).drew.setRow w.heap.size Y).heap[w.heap.size]? = some (.cells cells 5 (0, 0)) ∧
      cells.size = cap3 ∧ cells.toList.take L.length = bvs L ∧ L.length + n ≤ cap3 ∧ cap3 ≤ maxLen ∧ Below w.heap.size w ((w.alloc (.cells Z 5)).drew.setRow w.heap.size Y) := by
    refine ⟨cap2, Y, rfl, setRow_heap _ _ Z Y 5 (0, 0) (heap_alloc_new w _), ?_, ?_, by omega, hcaple, ?_⟩
    · have hzl : Z.toList.length = cap2 := by rw [Array.length_toList]; exact hZs
      have : Y.toList.length = cap2 := by rw [hYl, List.length_append, hxl, List.length_drop, hzl]; omega
      simpa using this
    · rw [hYl, List.take_append_of_le_length (by rw [hxl]; exact Nat.le_refl _), List.take_of_length_le (by rw [hxl]; exact Nat.le_refl _)]
    · exact ⟨rfl, rfl, rfl, by simp, fun k hk => by rw [setRow_other _ _ _ _ (by omega)]; exact Below.heap_alloc w _ k hk⟩
  by_cases hlt : L.length + n < 2 * c
  · rw [if_pos hlt] at hC
    subst hC
    rw [show (((2 * c : Nat)) : Int) = 2 * (c : Int) by omega] at happ
    go_enter_defers Tryd.func38, Tryd.ntmps38
    go_wp2_with (at_builtin; refine Lib.wpList_append_run _ rfl _ _ _ _ rfl _ _ rfl rfl _ _ happ ?_)
    refine leaves_cons (f := 39) (args := #[]) (by simp) (Go.Proofs.enters_of Tryd.func39 (by kernel_rfl) rfl _ _) ?_
    refine (catchIdle _).mono ?_
    rintro e u' w'' ⟨rfl, rfl, rfl⟩
    refine ⟨_, results_tmp rfl _ _ _, ?_⟩
    obtain ⟨cap3, cells, e1, r⟩ := HEND
    exact ⟨cap3, cells, congrArg Ending.returned e1, r⟩
  · rw [if_neg hlt] at hC
    subst hC
    rw [show (((L.length + n : Nat)) : Int) = (L.length : Int) + (n : Int) by omega] at happ
    go_enter_defers Tryd.func38, Tryd.ntmps38
    go_wp2_with (at_builtin; refine Lib.wpList_append_run _ rfl _ _ _ _ rfl _ _ rfl rfl _ _ happ ?_)
    refine leaves_cons (f := 39) (args := #[]) (by simp) (Go.Proofs.enters_of Tryd.func39 (by kernel_rfl) rfl _ _) ?_
    refine (catchIdle _).mono ?_
    rintro e u' w'' ⟨rfl, rfl, rfl⟩
    refine ⟨_, results_tmp rfl _ _ _, ?_⟩
    obtain ⟨cap3, cells, e1, r⟩ := HEND
    exact ⟨cap3, cells, congrArg Ending.returned e1, r⟩

set_option maxHeartbeats 6400000 in
set_option maxRecDepth 100000 in
theorem growSliceNil (n : Nat) (w : World) (hn : 1 ≤ n) (hlim : n ≤ 10000000) :
    Calls Tryd.prog 38 #[.slice none 0 0, .int .i64 n] w fun e w' => ∃ cap2 cells, e = .returned (.slice (some ⟨w.heap.size, 0, none⟩) 0 cap2) ∧ w'.heap[w.heap.size]? = some (.cells cells 5 (0, 0)) ∧
      cells.size = cap2 ∧ n ≤ cap2 ∧ cap2 ≤ maxLen ∧ Below w.heap.size w w' := by
  obtain ⟨i0, hi, hz0, hz1, hz2⟩ := info_parts u8Info
  have happ := Lib.run_append_nil_zeros (P := Tryd.prog) w 22 3 22 5 i0 (.int .u8 0) .i64 .i64 Tryd.underlying22 Tryd.underlying3 hi hz0 n (by omega) (by omega) (by omega) (by rw [hz2]; omega)
  generalize hcap : grownCap w n 0 5 = cap2 at happ
  have hcapge : n ≤ cap2 := by rw [← hcap]; exact grownCap_ge w _ 0 5
  have hcaple : cap2 ≤ maxLen := by rw [← hcap]; exact grownCap_le_maxLen w _ 0 5 (by unfold maxLen; omega)
  generalize hZ : (Builtin.zeroCells (Value.int .u8 0).cells n ++ Builtin.zeroCells (Value.int .u8 0).cells (cap2 - n)) = Z at happ
  have hZs : Z.size = cap2 := by rw [← hZ]; simp [size_zeroCells, Value.cells]; omega
  clear hcap hZ
  have hcopy := run_copy_nil (P := Tryd.prog) (w.alloc (.cells Z 5)).drew 22 22 3 5 ⟨w.heap.size, 0, none⟩ n cap2 Tryd.underlying22 (by rw [hi]; rfl)
  go_enter_defers Tryd.func38, Tryd.ntmps38
  go_wp2_with (at_builtin; refine Lib.wpList_append_run _ rfl _ _ _ _ rfl _ _ rfl rfl _ _ happ ?_)
  refine leaves_cons (f := 39) (args := #[]) (by simp) (Go.Proofs.enters_of Tryd.func39 (by kernel_rfl) rfl _ _) ?_
  refine (catchIdle _).mono ?_
  rintro e u' w'' ⟨rfl, rfl, rfl⟩
  refine ⟨_, results_tmp rfl _ _ _, ?_⟩
  exact ⟨cap2, Z, rfl, heap_alloc_new w _, hZs, hcapge, hcaple, ⟨rfl, rfl, rfl, by simp, fun k hk => Below.heap_alloc w _ k hk⟩⟩

/-- The reader's own four cells. -/
abbrev Raw (w : World) (g : Nat) (a : Option Addr) (n c off : Nat) (lr : Int) (br : Bool) : Prop := w.heap[g]? = some (.cells #[.slice a n c, .int .i64 off, .int .i8 lr, .bool br] 62 (0, 0))

set_option maxHeartbeats 1000000 in
theorem tryYes (g : Nat) (a : Option Addr) (n c off p : Nat) (lr : Int) (br : Bool) (w : World) (h : Raw w g a n c off lr br) (hc : c ≤ 9223372036854775807) (hp : n + p ≤ c) :
    Calls Tryd.prog 35 #[.pointer (some ⟨g, 0, none⟩), .int .i64 p] w fun e w' => e = .returned (.tuple #[.int .i64 n, .bool true]) ∧ w.grownBy w' (some g) ∧ Raw w' g a (n + p) c off lr br := by
  have c0 := cell_of_row w g 0 _ _ _ h
  have f0 := frozen_of_row w g 0 _ _ h
  have e1 : decide ((p : Int) ≤ (c : Int) - (n : Int)) = true := by simp; omega
  have e2 : (0 : Int) ≤ (n : Int) + (p : Int) ∧ (n : Int) + (p : Int) ≤ (c : Int) := by omega
  have e3 : ((n : Int) + (p : Int)).toNat = n + p := by omega
  go_enter Tryd.func35, Tryd.ntmps35
  (repeat' ((fail_if_success at_builtin); first | go_values | go_skip | go_guarded | go_step | go_upon))
  go_ret2
  exact ⟨rfl, grown_set (World.grownBy.refl _ _) 0 _, set_at h 0 _⟩

set_option maxHeartbeats 1000000 in
theorem tryNo (g : Nat) (a : Option Addr) (n c off p : Nat) (lr : Int) (br : Bool) (w : World) (h : Raw w g a n c off lr br) (hnc : n ≤ c) (hc : c ≤ 9223372036854775807) (hp : c < n + p) :
    Calls Tryd.prog 35 #[.pointer (some ⟨g, 0, none⟩), .int .i64 p] w fun e w' => e = .returned (.tuple #[.int .i64 0, .bool false]) ∧ w = w' := by
  have c0 := cell_of_row w g 0 _ _ _ h
  have f0 := frozen_of_row w g 0 _ _ h
  have e1 : decide ((p : Int) ≤ (c : Int) - (n : Int)) = false := by simp; omega
  go_enter Tryd.func35, Tryd.ntmps35
  (repeat' ((fail_if_success at_builtin); first | go_values | go_skip | go_guarded | go_step | go_upon))
  go_ret2
  exact ⟨rfl, rfl⟩

set_option maxHeartbeats 1000000 in
theorem bufReset (g : Nat) (a : Option Addr) (n c off : Nat) (lr : Int) (br : Bool) (w : World) (h : Raw w g a n c off lr br) :
    Calls Tryd.prog 37 #[.pointer (some ⟨g, 0, none⟩)] w fun e w' => e = .returned (.tuple #[]) ∧ w.grownBy w' (some g) ∧ Raw w' g a 0 c 0 0 br := by
  have c0 := cell_of_row w g 0 _ _ _ h
  have c1 := cell_of_row w g 1 _ _ _ h
  have c2 := cell_of_row w g 2 _ _ _ h
  have f0 := frozen_of_row w g 0 _ _ h
  have f1 := frozen_of_row w g 1 _ _ h
  have f2 := frozen_of_row w g 2 _ _ h
  have e2 : (0 : Int) ≤ (c : Int) := by omega
  go_enter Tryd.func37, Tryd.ntmps37
  (repeat' ((fail_if_success at_builtin); first | go_values | go_skip | go_guarded | go_step | go_upon))
  go_end0
  exact ⟨rfl, grown_set (grown_set (grown_set (World.grownBy.refl _ _) 0 _) 1 _) 2 _, set_at (set_at (set_at h 0 _) 1 _) 2 _⟩

end Go.Proofs.YthgaghpakioglaaDoor
