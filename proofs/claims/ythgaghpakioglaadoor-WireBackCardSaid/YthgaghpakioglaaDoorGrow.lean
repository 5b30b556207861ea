/- bytes.Buffer's grow, at a reader. -/
import Derived.Test.YthgaghpakioglaaDoorBuf
import Derived.Laws.MakeOwn
import Derived.Deep.RegionWith
import Derived.Deep.Draws
import Derived.BigCall
import Derived.BigGuard
namespace Go.Proofs.YthgaghpakioglaaDoor
set_option linter.unusedSimpArgs false
set_option linter.unusedVariables false
open Go.RowKit
set_option maxRecDepth 10000

set_option maxHeartbeats 1000000 in
theorem rawLen (g : Nat) (a : Option Addr) (n c off : Nat) (lr : Int) (br : Bool) (w : World) (h : Raw w g a n c off lr br) (ho : off ≤ n) (hnc : n ≤ c) (hc : c ≤ 9223372036854775807) :
    Calls Tryd.prog 30 #[.pointer (some ⟨g, 0, none⟩)] w fun e w' => e = .returned (.int .i64 ((n - off : Nat) : Int)) ∧ w' = w.drew := by
  have c0 := cell_of_row w g 0 _ _ _ h
  have c1 := cell_of_row w g 1 _ _ _ h
  have e1 : (n : Int) - (off : Int) = ((n - off : Nat) : Int) := by omega
  go_enter Tryd.func30, Tryd.ntmps30
  (repeat' ((fail_if_success at_builtin); first | go_values | go_skip | go_guarded | go_step | go_upon))
  go_region
  (repeat' ((fail_if_success at_builtin); first | go_values | go_skip | go_guarded | go_step | go_upon))
  go_ret
  exact ⟨rfl, rfl⟩

/-- What grow leaves: room for p more behind the m bytes. -/
def Grown (w : World) (g : Nat) (a : Option Addr) (m p : Nat) (l : List UInt8) (br : Bool) (w' : World) : Prop :=
  ∃ (k c : Nat) (lr : Int) (cur : Array Value), Raw w' g (some ⟨k, 0, none⟩) (m + p) c 0 lr br ∧ k ≠ g ∧ w'.heap[k]? = some (.cells cur 5 (0, 0)) ∧ cur.size = c ∧ m + p ≤ c ∧ c ≤ maxLen ∧ cur.toList.take m = bvs l ∧
    (a = some ⟨k, 0, none⟩ ∨ w.heap.size ≤ k) ∧ Frm w.heap.size (fun j => j = g ∨ a = some ⟨j, 0, none⟩) w w'

set_option maxHeartbeats 2000000 in
theorem growNilSmall (g p : Nat) (lr : Int) (br : Bool) (w : World) (h : Raw w g none 0 0 0 lr br) (hp : 1 ≤ p) (hp2 : p ≤ 64) :
    Calls Tryd.prog 36 #[.pointer (some ⟨g, 0, none⟩), .int .i64 p] w fun e w' => e = .returned (.int .i64 0) ∧ Grown w g none 0 p [] br w' := by
  obtain ⟨i0, hi, hz0, hz1, hz2⟩ := info_parts u8Info
  obtain ⟨M, hM⟩ : ∃ M, M = madeCells (Value.int .u8 0).cells ((64 : Int).toNat * i0.size) := ⟨_, rfl⟩
  have hMs : M.size = 64 := by rw [hM, size_madeCells, hz1]; rfl
  have hmk : ∀ W : World, (Instr.makeSlice 22 (.int .i64 (p : Int)) (.int .i64 64)).run Tryd.prog W = .ok (.slice (some ⟨W.heap.size, 0, none⟩) p 64) (W.alloc (.cells M 5)) := fun W => by
    have h := run_makeSlice (P := Tryd.prog) W 22 5 i0 (.int .u8 0) Tryd.underlying22 hi hz0 .i64 .i64 (p : Int) 64 (by omega) (by omega) (by rw [hz1]; decide) (by rw [hz2]; decide) (by decide)
    rw [← hM] at h
    simpa using h
  clear hM
  have hnil : ∀ W, (binOp .eql 22 (.slice none 0 0) (.slice none 0 0)).run Tryd.prog W = .ok (.bool true) W := fun W => Lib.run_eql_slice_nil_nil W _ _ Tryd.underlying22
  have hlt := (Array.getElem?_eq_some_iff.1 h).1
  have HW := Lib.hid h; clear h
  have e1 : decide ((p : Int) ≤ 64) = true := by simp; omega
  go_enter Tryd.func36, Tryd.ntmps36
  (repeat' ((fail_if_success at_builtin); first | go_values | go_skip | go_guarded | go_step | go_upon))
  refine (rawLen g none 0 0 0 lr br w HW.out (by omega) (by omega) (by omega)).mono ?_
  rintro _ w1 ⟨rfl, rfl⟩
  dsimp only
  have hR : Raw w.drew g none 0 0 0 lr br := HW.out
  have c0 := cell_of_row w.drew g 0 _ _ _ hR
  have c1 := cell_of_row w.drew g 1 _ _ _ hR
  have f0 := frozen_of_row w.drew g 0 _ _ hR
  have f1 := frozen_of_row w.drew g 1 _ _ hR
  have hgl : g < w.drew.heap.size := hlt
  have c0a : ∀ o, (w.drew.alloc o).cell? ⟨g, 0, none⟩ = some (.slice none 0 0) := fun o => (World.cell?_of_block (a := ⟨g, 0, none⟩) (Below.heap_alloc w.drew o g hgl)).trans c0
  have f0a : ∀ o, (w.drew.alloc o).frozen? ⟨g, 0, none⟩ = false := fun o => (World.frozen?_of_block (a := ⟨g, 0, none⟩) (Below.heap_alloc w.drew o g hgl)).trans f0
  have c0b : ∀ o, (w.alloc o).drew.cell? ⟨g, 0, none⟩ = some (.slice none 0 0) := c0a
  have f0b : ∀ o, (w.alloc o).drew.frozen? ⟨g, 0, none⟩ = false := f0a
  clear hR
  (repeat' ((fail_if_success at_builtin); first | go_values | go_skip | go_guarded | go_step | go_upon))
  refine (tryNo g none 0 0 0 p lr br w.drew HW.out (by omega) (by omega) (by omega)).mono ?_
  rintro _ _ ⟨rfl, rfl⟩
  dsimp only
  (repeat' ((fail_if_success at_builtin); first | go_values | go_skip | go_guarded | go_step | go_upon))
  go_ret
  have hsz : (w.setCell ⟨g, 0, none⟩ (.slice (some ⟨w.heap.size, 0, none⟩) p 64)).heap.size = w.heap.size := by simp [World.setCell]
  refine ⟨rfl, w.heap.size, 64, lr, M, ?_, by omega, ?_, hMs, by omega, by unfold maxLen; omega, rfl, Or.inr (Nat.le_refl _), ?_⟩
  · rw [Nat.zero_add]; exact (Below.heap_alloc (w.setCell ⟨g, 0, none⟩ (.slice (some ⟨w.heap.size, 0, none⟩) p 64)) _ g (by rw [hsz]; exact hlt)).trans (set_at HW.out 0 _)
  · have hn := heap_alloc_new (w.setCell ⟨g, 0, none⟩ (.slice (some ⟨w.heap.size, 0, none⟩) p 64)) (.cells M 5)
    rw [hsz] at hn
    exact hn
  · exact (((Frm.refl _ _ w).setCell (fun _ => Or.inl rfl) _).alloc (by rw [hsz]; exact Nat.le_refl _) _).drew

/-- grow's end: the new row, then the three stores. -/
theorem grown_end {w w2 : World} {g m p cap2 n0 c0 off : Nat} {lr : Int} {br : Bool} {a a0 : Option Addr} {v : Value} {cells : Array Value} {l : List UInt8} (hlt : g < w.heap.size) (hbel : Below w.heap.size w w2) (hbk2 : Raw w2 g a0 n0 c0 off lr br)
    (hN : w2.heap[w.heap.size]? = some (.cells cells 5 (0, 0))) (hcsz : cells.size = cap2) (hcap : m + p ≤ cap2) (hcm : cap2 ≤ maxLen) (htk : cells.toList.take m = bvs l) (ha : a = some ⟨w.heap.size, 0, none⟩ ∨ w.heap.size ≤ w.heap.size) {q : Nat} (hq : True → q = m + p) :
    Grown w g a m p l br (((w2.setCell ⟨g, 0, none⟩ v).setCell ⟨g, 1, none⟩ (.int .i64 0)).setCell ⟨g, 0, none⟩ (.slice (some ⟨w.heap.size, 0, none⟩) q cap2)) := by
  obtain rfl := hq trivial
  refine ⟨w.heap.size, cap2, lr, cells, set_at (set_at (set_at hbk2 0 _) 1 _) 0 _, by omega, ?_, hcsz, hcap, hcm, htk, Or.inr (Nat.le_refl _), ?_⟩
  · rw [Below.heap_setCell _ _ _ _ (by show w.heap.size ≠ g; omega), Below.heap_setCell _ _ _ _ (by show w.heap.size ≠ g; omega), Below.heap_setCell _ _ _ _ (by show w.heap.size ≠ g; omega)]; exact hN
  · exact (((Frm.ofBelow hbel).setCell (fun _ => Or.inl rfl) _).setCell (fun _ => Or.inl rfl) _).setCell (fun _ => Or.inl rfl) _

set_option maxHeartbeats 4000000 in
theorem growNilBig (g p : Nat) (lr : Int) (br : Bool) (w : World) (h : Raw w g none 0 0 0 lr br) (hp : 64 < p) (hp2 : p ≤ 1000000) :
    Calls Tryd.prog 36 #[.pointer (some ⟨g, 0, none⟩), .int .i64 p] w fun e w' => e = .returned (.int .i64 0) ∧ Grown w g none 0 p [] br w' := by
  have hnil : ∀ W, (binOp .eql 22 (.slice none 0 0) (.slice none 0 0)).run Tryd.prog W = .ok (.bool true) W := fun W => Lib.run_eql_slice_nil_nil W _ _ Tryd.underlying22
  have hlt := (Array.getElem?_eq_some_iff.1 h).1
  have HW := Lib.hid h; clear h
  have e1 : decide ((p : Int) ≤ 64) = false := by simp; omega
  have e2 : decide ((p : Int) ≤ 0) = false := by simp; omega
  have e3 : decide ((9223372036854775807 : Int) - (p : Int) < 0) = false := by simp; omega
  have hwn : IntKind.i64.wrap (p : Int) = p := by rw [IntKind.wrap_i64]; omega
  go_enter Tryd.func36, Tryd.ntmps36
  (repeat' ((fail_if_success at_builtin); first | go_values | go_skip | go_guarded | go_step | go_upon))
  refine (rawLen g none 0 0 0 lr br w HW.out (by omega) (by omega) (by omega)).mono ?_
  rintro _ w1 ⟨rfl, rfl⟩
  dsimp only
  have hR : Raw w.drew g none 0 0 0 lr br := HW.out
  have c0 := cell_of_row w.drew g 0 _ _ _ hR
  have c1 := cell_of_row w.drew g 1 _ _ _ hR
  have f0 := frozen_of_row w.drew g 0 _ _ hR
  have f1 := frozen_of_row w.drew g 1 _ _ hR
  clear hR
  (repeat' ((fail_if_success at_builtin); first | go_values | go_skip | go_guarded | go_step | go_upon))
  refine (tryNo g none 0 0 0 p lr br w.drew HW.out (by omega) (by omega) (by omega)).mono ?_
  rintro _ _ ⟨rfl, rfl⟩
  dsimp only
  (repeat' ((fail_if_success at_builtin); first | go_values | go_skip | go_guarded | go_step | go_upon))
  go_region_with (
    go_at_call 38
    refine (growSliceNil p _ (by omega) (by omega)).mono ?_
    rintro e w2 ⟨cap2, cells, rfl, hN, hcsz, hcap2, hcm2, hbel⟩
    have hbk2 : Raw w2 g none 0 0 0 lr br := (hbel.block g hlt).trans HW.out
    have d0 : w2.cell? ⟨g, 0, none⟩ = some (.slice none 0 0) := cell_of_row w2 g 0 _ _ _ hbk2
    have d1 : w2.cell? ⟨g, 1, none⟩ = some (.int .i64 0) := cell_of_row w2 g 1 _ _ _ hbk2
    have e0 : w2.frozen? ⟨g, 0, none⟩ = false := frozen_of_row w2 g 0 _ _ hbk2
    have e1 : w2.frozen? ⟨g, 1, none⟩ = false := frozen_of_row w2 g 1 _ _ hbk2)
  all_goals (
    have bp : (0 : Int) ≤ (p : Int) ∧ (p : Int) ≤ (cap2 : Int) := by omega
    have hcm3 : (cap2 : Int) ≤ 9223372036854775807 := by unfold maxLen at hcm2; omega
    (repeat' ((fail_if_success at_builtin); first | go_values | go_skip | go_guarded | go_step | go_upon))
    go_ret
    exact ⟨rfl, grown_end hlt ((Below.refl _ w).drew.drew.trans hbel) hbk2 hN hcsz (by omega) hcm2 rfl (Or.inr (Nat.le_refl _)) (fun _ => by rw [Nat.zero_add])⟩)

end Go.Proofs.YthgaghpakioglaaDoor
