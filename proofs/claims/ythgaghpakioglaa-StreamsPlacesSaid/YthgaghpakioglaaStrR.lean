/- Streams.Read, walked. -/
import Derived.Test.YthgaghpakioglaaItB
import Derived.Test.YthgaghpakioglaaStrH
namespace Go.Proofs.Ythgaghpakioglaa
set_option linter.unusedSimpArgs false
set_option linter.unusedVariables false
open Go.RowKit
set_option maxRecDepth 10000
--@PUT2

/-- tenant.events: a function, and the boxes of what it catches. -/
def EvtR (w : World) (tb : Nat) (s : ByteArray) (fr : Int) (e : Ending) (w' : World) : Prop :=
  e = .returned (.func (.func 69) #[] #[.pointer (some ⟨w.heap.size, 0, none⟩), .pointer (some ⟨w.heap.size + 1, 0, none⟩), .pointer (some ⟨w.heap.size + 1 + 1, 0, none⟩)]) ∧ Below w.heap.size w w' ∧
    w'.cell? ⟨w.heap.size, 0, none⟩ = some (.pointer (some ⟨tb, 0, none⟩)) ∧ w'.cell? ⟨w.heap.size + 1, 0, none⟩ = some (.string s) ∧ w'.cell? ⟨w.heap.size + 1 + 1, 0, none⟩ = some (.int .i64 fr)
set_option maxHeartbeats 1000000 in
theorem tenEvents (tb : Nat) (s : ByteArray) (fr : Int) (w : World) : Calls Try.prog 53 #[.pointer (some ⟨tb, 0, none⟩), .string s, .int .i64 fr] w (EvtR w tb s fr) := by
  obtain ⟨r0, r1, r2, hB⟩ := al3 w (.cells #[.pointer (some ⟨tb, 0, none⟩)] 78) (.cells #[.string s] 9) (.cells #[.int .i64 fr] 3)
  obtain ⟨w1, hw1⟩ : ∃ w1, ((w.alloc (.cells #[.pointer (some ⟨tb, 0, none⟩)] 78)).alloc (.cells #[.string s] 9)).alloc (.cells #[.int .i64 fr] 3) = w1 := ⟨_, rfl⟩
  rw [hw1] at r0 r1 r2 hB
  have c0 := cell_of_row w1 _ 0 _ _ _ r0
  have c1 := cell_of_row w1 _ 0 _ _ _ r1
  have c2 := cell_of_row w1 _ 0 _ _ _ r2
  have HW := Lib.hid hw1
  have C0 := Lib.hid c0
  have C1 := Lib.hid c1
  have C2 := Lib.hid c2
  clear r0 r1 r2 hw1 c0 c1 c2
  go_enter Try.func53, Try.ntmps53
  (repeat' ((fail_if_success at_builtin); first | go_values | go_skip | go_guarded | go_step | go_upon))
  go_ret
  rw [HW.out]
  exact ⟨rfl, hB, C0.out, C1.out, C2.out⟩

set_option maxHeartbeats 1000000 in
theorem strRead (S : ByteArray → Nat → Prop) (F : Nat → Prop) (g cnt : Nat) (f : ByteArray → List Ev) (s t : ByteArray) (fr N : Int) (w : World) (h : StrAt w S F g cnt f) (hs : s.size ≤ maxLen) (htt : t.size ≤ maxLen) (hfr : -9223372036854775808 ≤ fr ∧ fr ≤ 9223372036854775807) (hN : -9223372036854775808 ≤ N ∧ N ≤ 9223372036854775807) :
    Calls Try.prog 27 #[.pointer (some ⟨g, 0, none⟩), .string s, .string t, .int .i64 fr, .int .i64 N] w (GotEv w ((readS ((f s).map Ev.sem) t fr).take (min N 64).toNat)) := by
  have H := Lib.hid h
  clear h
  obtain ⟨L, hL⟩ : ∃ L, readS ((f s).map Ev.sem) t fr = L := ⟨_, rfl⟩
  rw [hL]
  have HL := Lib.hid hL
  clear hL
  go_enter Try.func27, Try.ntmps27
  (repeat' ((fail_if_success at_builtin); first | go_values | go_skip | go_guarded | go_step | go_upon))
  refine (strOf S F g cnt f s w H.out hs).mono ?_
  rintro _ w1 ⟨tb, rfl, ht, hB⟩
  have HT := Lib.hid ht
  clear ht
  dsimp only
  (repeat' ((fail_if_success at_builtin); first | go_values | go_skip | go_guarded | go_step | go_upon))
  refine (tenEvents tb t fr w1).mono ?_
  rintro _ wb ⟨rfl, hBb, c0, c1, c2⟩
  have hit := evIt wb tb w1.heap.size (w1.heap.size + 1) (w1.heap.size + 1 + 1) t fr (f s) htt hfr (HT.out.below hBb) c0 c1 c2
  rw [HL.out] at hit
  have HIT := Lib.hid hit
  have hBw : Below w.heap.size w wb := hB.trans (hBb.mono hB.size)
  clear hit c0 c1 c2
  dsimp only
  (repeat' ((fail_if_success at_builtin); first | go_values | go_skip | go_guarded | go_step | go_upon))
  refine (firstAll 69 _ L N wb (enters_of Try.func69 (by kernel_rfl) rfl) hN HIT.out).mono ?_
  rintro e w3 h3
  obtain ⟨xs, a, c, rfl, k2, k3, k4, k5, k6⟩ := GotEv.of_first h3 hBw
  have K3 := Lib.hid k3
  have K4 := Lib.hid k4
  have K6 := Lib.hid k6
  clear h3 k3 k4 k6
  dsimp only
  (repeat' ((fail_if_success at_builtin); first | go_values | go_skip | go_guarded | go_step | go_upon))
  go_ret
  exact ⟨xs, a, c, rfl, k2, K3.out, K4.out, k5, K6.out⟩
theorem readSS {w : World} {F : Nat → Prop} {g cnt : Nat} {φ : ByteArray → List EvS} (h : StrS w F g cnt φ) (s t : ByteArray) (fr N : Int) (hs : s.size ≤ maxLen) (ht : t.size ≤ maxLen) (hfr : -9223372036854775808 ≤ fr ∧ fr ≤ 9223372036854775807) (hN : -9223372036854775808 ≤ N ∧ N ≤ 9223372036854775807) :
    Calls Try.prog 27 #[.pointer (some ⟨g, 0, none⟩), .string s, .string t, .int .i64 fr, .int .i64 N] w (GotEv w ((readS (φ s) t fr).take (min N 64).toNat)) := by
  obtain ⟨S, f, h1, h2⟩ := h.out
  rw [← h2]
  exact strRead S F g cnt f s t fr N w h1 hs ht hfr hN

end Go.Proofs.Ythgaghpakioglaa
