/- Streams.All, walked. -/
import Derived.Test.YthgaghpakioglaaItA
namespace Go.Proofs.Ythgaghpakioglaa
set_option linter.unusedSimpArgs false
set_option linter.unusedVariables false
open Go.RowKit
set_option maxRecDepth 10000
--@PUT2

theorem told_take {L : List EvS} {M : Int} {xs : List Ev} (h : Told (fun xs => xs.map Ev.sem = L) (fun xs => xs.map Ev.sem <+: L) M xs) : xs.map Ev.sem = L.take M.toNat := by
  rcases h with ⟨h1, rfl⟩ | ⟨h1, ⟨h2, h3⟩ | ⟨h2, h3⟩⟩
  · rw [show M.toNat = 0 by omega]; rfl
  · rw [List.take_of_length_le (by rw [← h2, List.length_map]; omega)]; exact h2
  · obtain ⟨t, rfl⟩ := h2
    rw [show M.toNat = (xs.map Ev.sem).length by rw [List.length_map]; omega, List.take_left]
/-- Events in new memory that say L. -/
def GotEv (w : World) (L : List EvS) (e : Ending) (w' : World) : Prop :=
  ∃ (xs : List Ev) (a : Option Addr) (c : Nat), e = .returned (.slice a xs.length c) ∧ xs.length ≤ c ∧ w'.ownsRow w.heap.size 54 6 (.slice a xs.length c) xs.length (xs.flatMap Ev.cells) ∧ (∀ x ∈ xs, x.Rd w.heap.size w') ∧ Below w.heap.size w w' ∧ xs.map Ev.sem = L
theorem owns_low {w : World} {base base' e size : Nat} {v : Value} {n : Nat} {xs : List Value} (h : w.ownsRow base e size v n xs) (hb : base' ≤ base) : w.ownsRow base' e size v n xs := by
  refine ⟨h.1, ?_⟩
  rcases h.2 with h2 | ⟨g, cap, cur, hv, hg, r⟩
  · exact .inl h2
  · exact .inr ⟨g, cap, cur, hv, Nat.le_trans hb hg, r⟩
theorem GotEv.of_first {w w2 w3 : World} {L : List EvS} {M : Int} {e : Ending} (h : FirstR w2 (fun xs => xs.map Ev.sem = L) (fun xs => xs.map Ev.sem <+: L) M e w3) (hB : Below w.heap.size w w2) : GotEv w (L.take M.toNat) e w3 := by
  obtain ⟨xs, a, c, h1, h2, h3, h4, h5, h6⟩ := h
  exact ⟨xs, a, c, h1, h2, owns_low h3 hB.size, fun x hx => (h4 x hx).of hB.size (fun _ _ _ hb => hb), hB.trans (h5.mono hB.size), told_take h6⟩
theorem firstAll (gf : Nat) (lb : Array Value) (L : List EvS) (N : Int) (w : World) (eg : ∀ args w, (callFunc gf args).run Try.prog w = .ok (.enter gf args) w) (hN : -9223372036854775808 ≤ N ∧ N ≤ 9223372036854775807)
    (hit : IterOK Try.prog gf lb encEv (fun x W => Ev.Rd w.heap.size W x) w.heap.size (fun xs => xs.map Ev.sem = L) (fun xs => xs.map Ev.sem <+: L) w) :
    Calls Try.prog 52 #[.func (.func gf) #[] lb, .int .i64 N] w (FirstR w (fun xs => xs.map Ev.sem = L) (fun xs => xs.map Ev.sem <+: L) (min N 64)) := by
  by_cases h : 1 ≤ N
  · exact firstYes gf lb _ _ N w eg h hN.2 hit
  · exact firstNo gf lb _ _ N w (by omega) hN.1

set_option maxHeartbeats 1000000 in
theorem strAll (S : ByteArray → Nat → Prop) (F : Nat → Prop) (g cnt : Nat) (f : ByteArray → List Ev) (s : ByteArray) (fr N : Int) (w : World) (h : StrAt w S F g cnt f) (hs : s.size ≤ maxLen) (hfr : -9223372036854775808 ≤ fr ∧ fr ≤ 9223372036854775807) (hN : -9223372036854775808 ≤ N ∧ N ≤ 9223372036854775807) :
    Calls Try.prog 28 #[.pointer (some ⟨g, 0, none⟩), .string s, .int .i64 fr, .int .i64 N] w (GotEv w ((((f s).map Ev.sem).drop (max fr 1 - 1).toNat).take (min N 64).toNat)) := by
  have H := Lib.hid h
  clear h
  obtain ⟨L, hL⟩ : ∃ L, ((f s).map Ev.sem).drop (max fr 1 - 1).toNat = L := ⟨_, rfl⟩
  rw [hL]
  have HL := Lib.hid hL
  clear hL
  obtain ⟨wa, hwa⟩ : ∃ wa, w.alloc (.cells #[.int .i64 fr] 3) = wa := ⟨_, rfl⟩
  have hBa : Below w.heap.size w wa := by rw [← hwa]; exact (Below.refl _ _).alloc (Nat.le_refl _) _
  have hca : wa.heap[w.heap.size]? = some (.cells #[.int .i64 fr] 3 (0, 0)) := by rw [← hwa]; exact heap_alloc_new w _
  have HWA := Lib.hid hwa
  have HCA := Lib.hid hca
  clear hwa hca
  go_enter Try.func28, Try.ntmps28
  (repeat' ((fail_if_success at_builtin); first | go_values | go_skip | go_guarded | go_step | go_upon))
  rw [HWA.out]
  refine (strOf S F g cnt f s wa (H.out.below hBa) hs).mono ?_
  rintro _ w1 ⟨tb, rfl, ht, hB⟩
  have HT := Lib.hid ht
  clear ht
  obtain ⟨wb, hwb⟩ : ∃ wb, w1.alloc (.cells #[.pointer (some ⟨tb, 0, none⟩)] 78) = wb := ⟨_, rfl⟩
  have HWB := Lib.hid hwb
  clear hwb
  dsimp only
  (repeat' ((fail_if_success at_builtin); first | go_values | go_skip | go_guarded | go_step | go_upon))
  rw [HWB.out]
  have hBb : Below w1.heap.size w1 wb := by rw [← HWB.out]; exact (Below.refl _ _).alloc (Nat.le_refl _) _
  have hb1 : wb.heap[w1.heap.size]? = some (.cells #[.pointer (some ⟨tb, 0, none⟩)] 78 (0, 0)) := by rw [← HWB.out]; exact heap_alloc_new w1 _
  have hsa := lt_of_get HCA.out
  have hb0 := row_below (row_below HCA.out hB hsa) hBb (Nat.lt_of_lt_of_le hsa hB.size)
  have hBw : Below w.heap.size w wb := (hBa.trans (hB.mono hBa.size)).trans (hBb.mono (Nat.le_trans hBa.size hB.size))
  have hit := allIt wb tb w.heap.size w1.heap.size fr (f s) hfr (HT.out.below hBb) (cell_of_row wb _ 0 _ _ _ hb0) (cell_of_row wb _ 0 _ _ _ hb1)
  rw [HL.out] at hit
  refine (firstAll 54 _ L N wb (enters_of Try.func54 (by kernel_rfl) rfl) hN hit).mono ?_
  rintro e w3 h3
  obtain ⟨xs, a, c, rfl, k2, k3, k4, k5, k6⟩ := GotEv.of_first h3 hBw
  have K3 := Lib.hid k3
  have K4 := Lib.hid k4
  have K6 := Lib.hid k6
  clear h3 hit k3 k4 k6 hb0 hb1
  dsimp only
  (repeat' ((fail_if_success at_builtin); first | go_values | go_skip | go_guarded | go_step | go_upon))
  go_ret
  exact ⟨xs, a, c, rfl, k2, K3.out, K4.out, k5, K6.out⟩

end Go.Proofs.Ythgaghpakioglaa
