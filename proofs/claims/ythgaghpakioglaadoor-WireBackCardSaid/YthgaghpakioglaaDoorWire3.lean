/- What wire.In's Next answers. -/
import Derived.Test.YthgaghpakioglaaDoorWire2
import Derived.Test.YthgaghpakioglaaDoorClone
namespace Go.Proofs.YthgaghpakioglaaDoor
set_option linter.unusedSimpArgs false
set_option linter.unusedVariables false
open Go.RowKit
set_option maxRecDepth 10000

theorem bufNextQ (g q : Nat) (Q : Int) (r : Option Nat) (l : List UInt8) (br : Bool) (w : World) (h : In w g r l br) (hQ : Q = (q : Int)) (hq : q ≤ l.length) (hq0 : 1 ≤ q) :
    Calls Tryd.prog 34 #[.pointer (some ⟨g, 0, none⟩), .int .i64 Q] w fun e w' => ∃ a c, e = .returned (.slice a q c) ∧ q ≤ c ∧ RdB w' a (l.take q) ∧ In w' g r (l.drop q) br ∧ w.grownBy w' (some g) ∧ (∀ b o, a = some ⟨b, o, none⟩ → r = some b) := by
  subst hQ
  exact bufNext g q r l br w h hq hq0

set_option maxHeartbeats 1000000 in
theorem inNextBroken (g : Nat) (r : Option Nat) (l : List UInt8) (w : World) (h : In w g r l true) :
    Calls Tryd.prog 23 #[.pointer (some ⟨g, 0, none⟩)] w fun e w' => e = .returned (.tuple #[.slice none 0 0, .bool false, .int .i64 5]) ∧ In w' g r [] true ∧ w.grownBy w' (some g) := by
  have HI := Lib.hid h; clear h
  obtain ⟨n, c, off, lr, cur, h1, _⟩ := HI.out.out
  have c3 := cell_of_row w g 3 _ _ _ h1
  clear h1
  go_enter Tryd.func23, Tryd.ntmps23
  (repeat' ((fail_if_success at_builtin); first | go_values | go_skip | go_guarded | go_step | go_upon))
  refine (inBreaks g r l true w HI.out).mono ?_
  rintro _ w1 ⟨rfl, hi, hg⟩
  dsimp only
  have HI1 := Lib.hid hi; clear hi
  have HG1 := Lib.hid hg; clear hg
  (repeat' ((fail_if_success at_builtin); first | go_values | go_skip | go_guarded | go_step | go_upon))
  go_ret3
  exact ⟨rfl, HI1.out, HG1.out⟩

set_option maxHeartbeats 1000000 in
theorem inNextShort (g : Nat) (r : Option Nat) (l : List UInt8) (w : World) (h : In w g r l false) (hl : l.length < 4) :
    Calls Tryd.prog 23 #[.pointer (some ⟨g, 0, none⟩)] w fun e w' => e = .returned (.tuple #[.slice none 0 0, .bool false, .int .i64 0]) ∧ Still w w' := by
  have HI := Lib.hid h; clear h
  obtain ⟨n, c, off, lr, cur, h1, _⟩ := HI.out.out
  have c3 := cell_of_row w g 3 _ _ _ h1
  have c0 := cell_of_row w g 0 _ _ _ h1
  clear h1
  have e1 : decide ((l.length : Int) < 4) = true := by simp; omega
  go_enter Tryd.func23, Tryd.ntmps23
  (repeat' ((fail_if_success at_builtin); first | go_values | go_skip | go_guarded | go_step | go_upon))
  refine (bufLen g r l false w HI.out).mono ?_
  rintro _ w1 ⟨rfl, hs⟩
  dsimp only
  (repeat' ((fail_if_success at_builtin); first | go_values | go_skip | go_guarded | go_step | go_upon))
  go_ret3
  exact ⟨rfl, hs⟩

/-- The first four bytes. -/
theorem four {l : List UInt8} (h : 4 ≤ l.length) : ∃ d0 d1 d2 d3 m, l = d0 :: d1 :: d2 :: d3 :: m := by
  match l, h with
  | d0 :: d1 :: d2 :: d3 :: m, _ => exact ⟨d0, d1, d2, d3, m, rfl⟩

theorem arr4 (b o cc : Nat) (w : World) : (Instr.arrayAt 52 (.slice (some ⟨b, o, none⟩) 4 cc)).run Tryd.prog w = .ok (.pointer (some ⟨b, o, none⟩)) w := by
  simp [Instr.arrayAt, run_underlying Tryd.underlying52]

theorem four_cells {w : World} {b o : Nat} {d0 d1 d2 d3 : UInt8} {m : List UInt8} (h : RdB w (some ⟨b, o, none⟩) (d0 :: d1 :: d2 :: d3 :: m)) :
    w.cell? ⟨b, o, none⟩ = some (.int .u8 d0.toNat) ∧ w.cell? ⟨b, o + 1, none⟩ = some (.int .u8 d1.toNat) ∧ w.cell? ⟨b, o + 2, none⟩ = some (.int .u8 d2.toNat) ∧ w.cell? ⟨b, o + 3, none⟩ = some (.int .u8 d3.toNat) :=
  ⟨h.cell 0 (by simp [bvs]), h.cell 1 (by simp [bvs]), h.cell 2 (by simp [bvs]), h.cell 3 (by simp [bvs])⟩

set_option maxHeartbeats 2000000 in
theorem inNextBad (g : Nat) (r : Option Nat) (d0 d1 d2 d3 : UInt8) (m : List UInt8) (w : World) (h : In w g r (d0 :: d1 :: d2 :: d3 :: m) false) (hb : mayB (num4 [d0, d1, d2, d3]) = false) :
    Calls Tryd.prog 23 #[.pointer (some ⟨g, 0, none⟩)] w fun e w' => e = .returned (.tuple #[.slice none 0 0, .bool false, .int .i64 5]) ∧ In w' g r [] true ∧ Frm w.heap.size (fun j => j = g) w w' := by
  have HI := Lib.hid h; clear h
  obtain ⟨n, c, off, lr, cur, h1, _⟩ := HI.out.out
  have c3 := cell_of_row w g 3 _ _ _ h1
  have c0 := cell_of_row w g 0 _ _ _ h1
  clear h1
  obtain ⟨L, hL⟩ : ∃ L, d0 :: d1 :: d2 :: d3 :: m = L := ⟨_, rfl⟩
  have hlen : L.length = m.length + 4 := by rw [← hL]; rfl
  have hL4 : 4 ≤ L.length := by omega
  have HLEN := Lib.hid hlen; clear hlen
  rw [hL] at HI
  have HL := Lib.hid hL; clear hL
  have e1 : decide ((L.length : Int) < 4) = false := by simp; omega
  have HB := Lib.hid hb; clear hb
  go_enter Tryd.func23, Tryd.ntmps23
  (repeat' ((fail_if_success at_builtin); first | go_values | go_skip | go_guarded | go_step | go_upon))
  refine (bufLen g r L false w HI.out).mono ?_
  rintro _ w1 ⟨rfl, hs1⟩
  dsimp only
  have hi1 : In w1 g r L false := HI.out.keeps (by rw [hs1.heap]) (fun k _ => by rw [hs1.heap])
  have HI1 := Lib.hid hi1; clear hi1
  have HS1 := Lib.hid hs1; clear hs1
  clear c0 c3
  (repeat' ((fail_if_success at_builtin); first | go_values | go_skip | go_guarded | go_step | go_upon))
  refine (bufBytes g r L false w1 HI1.out).mono ?_
  rintro _ w2 ⟨a, cc, rfl, hcc, hrd, rfl⟩
  dsimp only
  have hrd2 : RdB w1.drew a L := RdC.congr hrd (fun _ _ _ _ => rfl)
  obtain ⟨b, o, rfl, _⟩ := hrd2.lt (by rw [bvs_length]; omega)
  rw [← HL.out] at hrd2
  obtain ⟨k0, k1, k2, k3⟩ := four_cells hrd2
  have HRD2 := Lib.hid hrd2; clear hrd2 hrd
  have bcc : (0 : Int) ≤ 4 ∧ (4 : Int) ≤ (cc : Int) := by omega
  have harr := fun w => arr4 b o cc w
  (repeat' ((fail_if_success at_builtin); first | go_values | go_skip | go_guarded | go_step | go_upon))
  refine (lenNumber d0 d1 d2 d3 _).mono ?_
  rintro _ w3 ⟨rfl, hB3⟩
  dsimp only
  rw [HB.out]
  have hi3 : In w3 g r L false := HI1.out.below (((Below.refl w1.heap.size w1).drew).trans hB3)
  have HI3 := Lib.hid hi3; clear hi3
  have HB3 := Lib.hid hB3; clear hB3
  clear k0 k1 k2 k3
  (repeat' ((fail_if_success at_builtin); first | go_values | go_skip | go_guarded | go_step | go_upon))
  refine (inBreaks g r L false w3 HI3.out).mono ?_
  rintro _ w4 ⟨rfl, hi4, hg4⟩
  dsimp only
  have HI4 := Lib.hid hi4; clear hi4
  have HG4 := Lib.hid hg4; clear hg4
  (repeat' ((fail_if_success at_builtin); first | go_values | go_skip | go_guarded | go_step | go_upon))
  go_ret3
  have hw1 : w1.heap.size = w.heap.size := by rw [HS1.out.heap]
  refine ⟨rfl, HI4.out, ((Frm.ofBelow (HS1.out.below w.heap.size)).trans (Frm.ofBelow ((((Below.refl w1.heap.size w1).drew).trans HB3.out).mono (by rw [hw1]; exact Nat.le_refl _)))).grown HG4.out (by have := HB3.out.size; have h2 : w1.drew.heap.size = w1.heap.size := rfl; omega) (fun j e _ => by cases e; rfl)⟩

set_option maxHeartbeats 2000000 in
theorem inNextWait (g : Nat) (r : Option Nat) (d0 d1 d2 d3 : UInt8) (m : List UInt8) (w : World) (h : In w g r (d0 :: d1 :: d2 :: d3 :: m) false) (hb : mayB (num4 [d0, d1, d2, d3]) = true) (hw : m.length < num4 [d0, d1, d2, d3]) :
    Calls Tryd.prog 23 #[.pointer (some ⟨g, 0, none⟩)] w fun e w' => e = .returned (.tuple #[.slice none 0 0, .bool false, .int .i64 0]) ∧ Below w.heap.size w w' := by
  obtain ⟨N, hN⟩ : ∃ N, num4 [d0, d1, d2, d3] = N := ⟨_, rfl⟩
  rw [hN] at hb hw
  have hNb : N ≤ 32768 := by unfold mayB at hb; have := of_decide_eq_true hb; omega
  have HN := Lib.hid hN; clear hN
  have HI := Lib.hid h; clear h
  obtain ⟨n, c, off, lr, cur, h1, _⟩ := HI.out.out
  have c3 := cell_of_row w g 3 _ _ _ h1
  have c0 := cell_of_row w g 0 _ _ _ h1
  clear h1
  obtain ⟨L, hL⟩ : ∃ L, d0 :: d1 :: d2 :: d3 :: m = L := ⟨_, rfl⟩
  have hlen : L.length = m.length + 4 := by rw [← hL]; rfl
  have hL4 : 4 ≤ L.length := by omega
  have HLEN := Lib.hid hlen; clear hlen
  rw [hL] at HI
  have HL := Lib.hid hL; clear hL
  have e1 : decide ((L.length : Int) < 4) = false := by simp; omega
  have HB := Lib.hid hb; clear hb
  go_enter Tryd.func23, Tryd.ntmps23
  (repeat' ((fail_if_success at_builtin); first | go_values | go_skip | go_guarded | go_step | go_upon))
  refine (bufLen g r L false w HI.out).mono ?_
  rintro _ w1 ⟨rfl, hs1⟩
  dsimp only
  have hi1 : In w1 g r L false := HI.out.keeps (by rw [hs1.heap]) (fun k _ => by rw [hs1.heap])
  have HI1 := Lib.hid hi1; clear hi1
  have HS1 := Lib.hid hs1; clear hs1
  clear c0 c3
  (repeat' ((fail_if_success at_builtin); first | go_values | go_skip | go_guarded | go_step | go_upon))
  refine (bufBytes g r L false w1 HI1.out).mono ?_
  rintro _ w2 ⟨a, cc, rfl, hcc, hrd, rfl⟩
  dsimp only
  have hrd2 : RdB w1.drew a L := RdC.congr hrd (fun _ _ _ _ => rfl)
  obtain ⟨b, o, rfl, _⟩ := hrd2.lt (by rw [bvs_length]; omega)
  rw [← HL.out] at hrd2
  obtain ⟨k0, k1, k2, k3⟩ := four_cells hrd2
  have HRD2 := Lib.hid hrd2; clear hrd2 hrd
  have bcc : (0 : Int) ≤ 4 ∧ (4 : Int) ≤ (cc : Int) := by omega
  have harr := fun w => arr4 b o cc w
  (repeat' ((fail_if_success at_builtin); first | go_values | go_skip | go_guarded | go_step | go_upon))
  refine (lenNumber d0 d1 d2 d3 _).mono ?_
  rintro _ w3 ⟨rfl, hB3⟩
  dsimp only
  rw [HN.out, HB.out]
  have hi3 : In w3 g r L false := HI1.out.below (((Below.refl w1.heap.size w1).drew).trans hB3)
  have HI3 := Lib.hid hi3; clear hi3
  have HB3 := Lib.hid hB3; clear hB3
  clear k0 k1 k2 k3
  have e2 : decide ((L.length : Int) < 4 + (N : Int)) = true := by have := HLEN.out; simp; omega
  (repeat' ((fail_if_success at_builtin); first | go_values | go_skip | go_guarded | go_step | go_upon))
  refine (bufLen g r L false w3 HI3.out).mono ?_
  rintro _ w4 ⟨rfl, hs4⟩
  dsimp only
  (repeat' ((fail_if_success at_builtin); first | go_values | go_skip | go_guarded | go_step | go_upon))
  go_ret3
  exact ⟨rfl, (((HS1.out.below w.heap.size).drew).trans (HB3.out.mono (by rw [show w1.drew.heap.size = w.heap.size by show w1.heap.size = _; rw [HS1.out.heap]]; exact Nat.le_refl _))).trans (hs4.below _)⟩

/-- What Next tells: new bytes. -/
def ToldB (w : World) (g : Nat) (r : Option Nat) (N : Nat) (l m : List UInt8) (e : Ending) (w' : World) : Prop :=
  ∃ a c, e = .returned (.tuple #[.slice a N c, .bool true, .int .i64 0]) ∧ N ≤ c ∧ RdB w' a l ∧ w'.ownsRow w.heap.size 5 1 (.slice a N c) N (bvs l) ∧ In w' g r m false ∧ Frm w.heap.size (fun j => j = g) w w'

set_option maxHeartbeats 4000000 in
theorem inNextYes (g : Nat) (r : Option Nat) (d0 d1 d2 d3 : UInt8) (m : List UInt8) (N : Nat) (w : World) (h : In w g r (d0 :: d1 :: d2 :: d3 :: m) false) (hN : num4 [d0, d1, d2, d3] = N) (hb : mayB N = true) (hw : N ≤ m.length) :
    Calls Tryd.prog 23 #[.pointer (some ⟨g, 0, none⟩)] w (ToldB w g r N (m.take N) (m.drop N)) := by
  have hNb : N ≤ 32768 := by unfold mayB at hb; have := of_decide_eq_true hb; omega
  have HN := Lib.hid hN; clear hN
  have HI := Lib.hid h; clear h
  obtain ⟨n, c, off, lr, cur, h1, _⟩ := HI.out.out
  have c3 := cell_of_row w g 3 _ _ _ h1
  have c0 := cell_of_row w g 0 _ _ _ h1
  clear h1
  obtain ⟨L, hL⟩ : ∃ L, d0 :: d1 :: d2 :: d3 :: m = L := ⟨_, rfl⟩
  have hlen : L.length = m.length + 4 := by rw [← hL]; rfl
  have hL4 : 4 ≤ L.length := by omega
  have HLEN := Lib.hid hlen; clear hlen
  rw [hL] at HI
  have HL := Lib.hid hL; clear hL
  have e1 : decide ((L.length : Int) < 4) = false := by simp; omega
  have HB := Lib.hid hb; clear hb
  go_enter Tryd.func23, Tryd.ntmps23
  (repeat' ((fail_if_success at_builtin); first | go_values | go_skip | go_guarded | go_step | go_upon))
  refine (bufLen g r L false w HI.out).mono ?_
  rintro _ w1 ⟨rfl, hs1⟩
  dsimp only
  have hi1 : In w1 g r L false := HI.out.keeps (by rw [hs1.heap]) (fun k _ => by rw [hs1.heap])
  have HI1 := Lib.hid hi1; clear hi1
  have HS1 := Lib.hid hs1; clear hs1
  clear c0 c3
  (repeat' ((fail_if_success at_builtin); first | go_values | go_skip | go_guarded | go_step | go_upon))
  refine (bufBytes g r L false w1 HI1.out).mono ?_
  rintro _ w2 ⟨a, cc, rfl, hcc, hrd, rfl⟩
  dsimp only
  have hrd2 : RdB w1.drew a L := RdC.congr hrd (fun _ _ _ _ => rfl)
  obtain ⟨b, o, rfl, _⟩ := hrd2.lt (by rw [bvs_length]; omega)
  rw [← HL.out] at hrd2
  obtain ⟨k0, k1, k2, k3⟩ := four_cells hrd2
  have HRD2 := Lib.hid hrd2; clear hrd2 hrd
  have bcc : (0 : Int) ≤ 4 ∧ (4 : Int) ≤ (cc : Int) := by omega
  have harr := fun w => arr4 b o cc w
  (repeat' ((fail_if_success at_builtin); first | go_values | go_skip | go_guarded | go_step | go_upon))
  refine (lenNumber d0 d1 d2 d3 _).mono ?_
  rintro _ w3 ⟨rfl, hB3⟩
  dsimp only
  rw [HN.out, HB.out]
  have hi3 : In w3 g r L false := HI1.out.below (((Below.refl w1.heap.size w1).drew).trans hB3)
  have HI3 := Lib.hid hi3; clear hi3
  have HB3 := Lib.hid hB3; clear hB3
  clear k0 k1 k2 k3
  have e2 : decide ((L.length : Int) < 4 + (N : Int)) = false := by have := HLEN.out; simp; omega
  (repeat' ((fail_if_success at_builtin); first | go_values | go_skip | go_guarded | go_step | go_upon))
  refine (bufLen g r L false w3 HI3.out).mono ?_
  rintro _ w4 ⟨rfl, hs4⟩
  dsimp only
  have hi4 : In w4 g r L false := HI3.out.keeps (by rw [hs4.heap]) (fun k _ => by rw [hs4.heap])
  have HI4 := Lib.hid hi4; clear hi4
  have HS4 := Lib.hid hs4; clear hs4
  (repeat' ((fail_if_success at_builtin); first | go_values | go_skip | go_guarded | go_step | go_upon))
  refine (bufNextQ g (4 + N) _ r L false w4 HI4.out (by omega) (by have := HLEN.out; omega) (by omega)).mono ?_
  rintro _ w5 ⟨a5, c5, rfl, hc5, hr5, hi5, hg5, hab5⟩
  dsimp only
  rw [← HL.out] at hr5 hi5
  have ht : (d0 :: d1 :: d2 :: d3 :: m).take (4 + N) = d0 :: d1 :: d2 :: d3 :: m.take N := by rw [Nat.add_comm]; rfl
  have hd : (d0 :: d1 :: d2 :: d3 :: m).drop (4 + N) = m.drop N := by rw [Nat.add_comm]; rfl
  rw [ht] at hr5
  rw [hd] at hi5
  obtain ⟨a6, ha6⟩ : ∃ a6, (if c5 = 4 then a5 else a5.map (·.add 4)) = a6 := ⟨_, rfl⟩
  have hsl : ∀ w, (Instr.slice 22 (.slice a5 (4 + N) c5) (some (.int .i64 4)) none none).run Tryd.prog w = .ok (.slice a6 N (c5 - 4)) w := fun w => by
    have h := run_slice_from (P := Tryd.prog) 22 5 Tryd.underlying22 hszB a5 (4 + N) c5 4 (by omega) w
    rw [ha6, Nat.add_sub_cancel_left] at h
    exact h
  have hr6 : RdB w5 a6 (m.take N) := by
    have h := hr5.dropB (a' := a6) 4 (fun hlt => by
      rw [← ha6, if_neg (by simp at hlt; omega)])
    exact h
  have HR6 := Lib.hid hr6; clear hr6 hr5 ha6 ht hd
  have HI5 := Lib.hid hi5; clear hi5
  have HG5 := Lib.hid hg5; clear hg5
  (repeat' ((fail_if_success at_builtin); first | go_values | go_skip | go_guarded | go_step | go_upon))
  refine (bytesClone a6 N (c5 - 4) (m.take N) w5 HR6.out (by rw [List.length_take]; omega) (by omega)).mono ?_
  rintro _ w6 ⟨a7, c7, rfl, hc7, hr7, hB7, hO7⟩
  dsimp only
  have HR7 := Lib.hid hr7; clear hr7
  have HO7 := Lib.hid hO7; clear hO7
  (repeat' ((fail_if_success at_builtin); first | go_values | go_skip | go_guarded | go_step | go_upon))
  go_ret3
  have z1 : w1.heap.size = w.heap.size := by rw [HS1.out.heap]
  have z3 : w.heap.size ≤ w3.heap.size := by have := HB3.out.size; have h2 : w1.drew.heap.size = w1.heap.size := rfl; omega
  have z4 : w4.heap.size = w3.heap.size := by rw [HS4.out.heap]
  have z5 : w.heap.size ≤ w5.heap.size := by have := HG5.out.size; omega
  have hF3 : Below w.heap.size w w3 := ((HS1.out.below w.heap.size).drew).trans (HB3.out.mono (by rw [show w1.drew.heap.size = w1.heap.size from rfl, z1]; exact Nat.le_refl _))
  have hF4 : Below w.heap.size w w4 := hF3.trans (HS4.out.below _)
  exact ⟨a7, c7, rfl, hc7, HR7.out, owns_mono HO7.out z5, HI5.out.below hB7, ((Frm.ofBelow hF4).grown HG5.out (by omega) (fun j e _ => by cases e; rfl)).trans (Frm.ofBelow (hB7.mono z5))⟩

end Go.Proofs.YthgaghpakioglaaDoor
