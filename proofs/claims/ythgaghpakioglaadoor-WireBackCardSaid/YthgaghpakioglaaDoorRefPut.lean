/- The document's parcel (sealeryref27.Put). -/
import Derived.Test.YthgaghpakioglaaDoorPut
namespace Go.Proofs.YthgaghpakioglaaDoor
set_option linter.unusedSimpArgs false
set_option linter.unusedVariables false
open Go.RowKit
set_option maxRecDepth 10000

set_option maxHeartbeats 1000000 in
theorem refMay (n : Nat) (w : World) (hn : n ≤ 9223372036854775807) :
    Calls Tryd.prog 28 #[.int .i64 n] w fun e w' => e = .returned (.bool (mayB n)) ∧ w = w' := by
  by_cases h1 : 1 ≤ n
  · have q1 : decide ((1 : Int) ≤ (n : Int)) = true := by simp; omega
    by_cases h2 : n ≤ 32768
    · have q2 : decide ((n : Int) ≤ 32768) = true := by simp; omega
      go_enter Tryd.func28, Tryd.ntmps28
      (repeat' ((fail_if_success at_builtin); first | go_values | go_skip | go_guarded | go_step | go_upon))
      go_ret
      exact ⟨by simp [mayB, h1, h2], rfl⟩
    · have q2 : decide ((n : Int) ≤ 32768) = false := by simp; omega
      go_enter Tryd.func28, Tryd.ntmps28
      (repeat' ((fail_if_success at_builtin); first | go_values | go_skip | go_guarded | go_step | go_upon))
      go_ret
      exact ⟨by simp [mayB, h1, h2], rfl⟩
  · have q1 : decide ((1 : Int) ≤ (n : Int)) = false := by simp; omega
    go_enter Tryd.func28, Tryd.ntmps28
    (repeat' ((fail_if_success at_builtin); first | go_values | go_skip | go_guarded | go_step | go_upon))
    go_ret
    exact ⟨by simp [mayB, h1], rfl⟩

set_option maxHeartbeats 1000000 in
theorem refPutNo (a : Option Addr) (n c : Nat) (w : World) (hn : n ≤ 1000000) (hb : mayB n = false) :
    Calls Tryd.prog 11 #[.slice a n c] w fun e w' => e = .returned (.tuple #[.slice none 0 0, .int .i64 5]) ∧ w = w' := by
  have HB := Lib.hid hb; clear hb
  go_enter Tryd.func11, Tryd.ntmps11
  (repeat' ((fail_if_success at_builtin); first | go_values | go_skip | go_guarded | go_step | go_upon))
  refine (refMay n w (by omega)).mono ?_
  rintro _ _ ⟨rfl, rfl⟩
  dsimp only
  rw [HB.out]
  (repeat' ((fail_if_success at_builtin); first | go_values | go_skip | go_guarded | go_step | go_upon))
  go_ret2
  exact ⟨rfl, rfl⟩

set_option maxHeartbeats 2000000 in
theorem refPutYes (a : Option Addr) (n c : Nat) (l : List UInt8) (w : World) (hr : RdB w a l) (en : l.length = n) (hb : mayB n = true) :
    Calls Tryd.prog 11 #[.slice a n c] w (GotP w (4 + n) (parcel l)) := by
  obtain ⟨i0, hi, hz0, hz1, hz2⟩ := info_parts u8Info
  have hn1 : 1 ≤ n ∧ n ≤ 32768 := by unfold mayB at hb; exact of_decide_eq_true hb
  have HR := Lib.hid hr; clear hr
  have HB := Lib.hid hb; clear hb
  obtain ⟨x, hx⟩ : ∃ x, n / 256 = x := ⟨_, rfl⟩
  obtain ⟨y, hy⟩ : ∃ y, n % 256 = y := ⟨_, rfl⟩
  have q1 : (n : Int).tdiv 256 = (x : Int) := by rw [Int.tdiv_eq_ediv_of_nonneg (by omega)]; omega
  have q1' : (n : Int) / 256 = (x : Int) := by omega
  have q2 : (n : Int).tmod 256 = (y : Int) := by rw [Int.tmod_eq_emod_of_nonneg (by omega)]; omega
  have q2' : (n : Int) % 256 = (y : Int) := by omega
  have hx2 : x < 256 := by omega
  have hy2 : y < 256 := by omega
  have q3 : IntKind.i64.wrap (x : Int) = (x : Int) := by rw [IntKind.wrap_i64]; omega
  have q4 : IntKind.u8.wrap (x : Int) = (x : Int) := by rw [IntKind.wrap_u8]; omega
  have q5 : IntKind.u8.wrap (y : Int) = (y : Int) := by rw [IntKind.wrap_u8]; omega
  have hcells : ([.int .u8 0, .int .u8 0, .int .u8 (x : Int), .int .u8 (y : Int)] : List Value) = bvs (len4 n) := by
    have e3 := nb_u8 n 3
    have e2 := nb_u8 n 2
    have e1 := nb_u8 n 1
    have e0 := nb_u8 n 0
    have a3 : nb n 3 = 0 := by unfold nb; simp; omega
    have a2 : nb n 2 = 0 := by unfold nb; simp; omega
    have a1 : nb n 1 = (x : Int) := by unfold nb; simp; omega
    have a0 : nb n 0 = (y : Int) := by unfold nb; simp; omega
    show _ = [Value.int .u8 ((u8 (nb n 3)).toNat : Int), .int .u8 ((u8 (nb n 2)).toNat : Int), .int .u8 ((u8 (nb n 1)).toNat : Int), .int .u8 ((u8 (nb n 0)).toNat : Int)]
    rw [e3, e2, e1, e0, a3, a2, a1, a0]
  have HC := Lib.hid hcells; clear hcells
  clear hx hy
  go_enter Tryd.func11, Tryd.ntmps11
  (repeat' ((fail_if_success at_builtin); first | go_values | go_skip | go_guarded | go_step | go_upon))
  refine (refMay n w (by omega)).mono ?_
  rintro _ _ ⟨rfl, rfl⟩
  dsimp only
  rw [HB.out]
  (repeat' ((fail_if_success at_builtin); first | go_values | go_skip | go_guarded | go_step | go_upon))
  refine wpList_app _ rfl _ _ _ _ rfl w.heap.size 5 i0 _ 1 1 Tryd.underlying22 hi hz0 hz1 hz2 rfl _ _ _ rfl (World.ownsRow_lit (base := w.heap.size) (size := 1) w #[.int .u8 0, .int .u8 0, .int .u8 (x : Int), .int .u8 (y : Int)] 4 (Nat.le_refl _) (by decide) rfl) _ rfl n (bvs l) (src_of_rdc Tryd.underlying22 (HR.out.alloc _) (by rw [bvs_length, en, Nat.mul_one]) (bvs_oneCell l)) (by unfold maxLen; omega) (by omega) (by simp) ?_
  intro v1 w1 hO1 hg1
  have hB1 : Below w.heap.size w w1 := ((Below.refl _ _).alloc (Nat.le_refl _) _).grown hg1 (by simp) (fun g e => by cases e; exact Nat.le_refl _)
  obtain ⟨a3, c3, rfl, hc3, _, _⟩ := owns_slice hO1
  have HO := Lib.hid hO1; clear hO1
  (repeat' ((fail_if_success at_builtin); first | go_values | go_skip | go_guarded | go_step | go_upon))
  go_ret2
  have hp : bvs (parcel l) = [.int .u8 0, .int .u8 0, .int .u8 (x : Int), .int .u8 (y : Int)] ++ bvs l := by
    unfold parcel
    rw [bvs_append, en, HC.out]
  have hO := HO.out
  rw [show (#[Value.int .u8 0, .int .u8 0, .int .u8 (x : Int), .int .u8 (y : Int)] : Array Value).toList ++ bvs l = bvs (parcel l) by rw [hp]] at hO
  exact ⟨a3, c3, rfl, hc3, rdc_of_owns hO, hB1, hO⟩

end Go.Proofs.YthgaghpakioglaaDoor
