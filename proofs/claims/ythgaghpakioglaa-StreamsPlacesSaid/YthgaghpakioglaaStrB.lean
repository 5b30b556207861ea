/- Tenants' events in memory (package streams): New, of, Version, Count, Names, Size. -/
import Derived.Test.YthgaghpakioglaaStrA
namespace Go.Proofs.Ythgaghpakioglaa
set_option linter.unusedSimpArgs false
set_option linter.unusedVariables false
open Go.RowKit
set_option maxRecDepth 10000
--@PUT2

set_option maxHeartbeats 400000 in
theorem strNew (w : World) : Calls Try.prog 9 #[] w fun e w' => ∃ g, e = .returned (.pointer (some ⟨g, 0, none⟩)) ∧ StrAt w' (fun _ _ => False) (fun k => w.heap.size ≤ k ∧ k < w'.heap.size) g 0 (fun _ => []) ∧ Below w.heap.size w w' := by
  have hmm := @run_makeMap Try.prog
  go_enter Try.func9, Try.ntmps9
  (repeat' ((fail_if_success at_builtin); first | go_values | go_skip | go_guarded | go_step | go_upon))
  go_ret
  have hm := SMap.made Try.prog 9 w
  have hs1 : (w.alloc (.map #[] 0)).heap.size = w.heap.size + 1 := by simp
  refine ⟨w.heap.size + 1, rfl, ⟨⟨w.heap.size, 0, fun _ => none, ?_, hm.alloc _, Nat.le_refl _, ⟨Nat.le_refl _, by simp; omega⟩, fun s k h => h.elim, fun _ _ => rfl, fun s v e => (by cases e)⟩, ⟨by omega, by simp⟩, fun k hk => hk.2, fun s k h => h.elim, fun s s' k h => h.elim⟩, ((Below.refl _ _).alloc (Nat.le_refl _) _).alloc (by simp) _⟩
  have h := heap_alloc_new (w.alloc (.map #[] 0)) (.cells #[.map (some w.heap.size)] 74)
  rw [hs1] at h
  exact h

/-- A tenant without events. -/
theorem tenRd_none (w : World) (tb : Nat) (h : w.heap[tb]? = some (.cells #[.slice none 0 0, .map none, .int .i64 0] 77 (0, 0))) : TenRd w tb [] :=
  ⟨⟨none, 0, .map none, h, RdC.nil _ _, Nat.le_refl _, by unfold maxLen; omega, fun s hs => ⟨none, 0, fun w' _ => by kernel_rfl, RdC.nil _ _, Nat.le_refl _, by unfold maxLen; omega⟩, fun ty w' _ => by kernel_rfl⟩, fun e he => (by cases he), ⟨fun e he => (by cases he), fun e he => (by cases he), fun i hi => absurd hi (Nat.not_lt_zero _), fun i hi => absurd hi (Nat.not_lt_zero _)⟩, Nat.zero_le _⟩

def OfR (w : World) (es : List Ev) (e : Ending) (w' : World) : Prop := ∃ tb, e = .returned (.pointer (some ⟨tb, 0, none⟩)) ∧ TenRd w' tb es ∧ Below w.heap.size w w'
set_option maxHeartbeats 1000000 in
theorem strOf (S : ByteArray → Nat → Prop) (F : Nat → Prop) (g cnt : Nat) (f : ByteArray → List Ev) (s : ByteArray) (w : World) (h : StrAt w S F g cnt f) (hs : s.size ≤ maxLen) :
    Calls Try.prog 38 #[.pointer (some ⟨g, 0, none⟩), .string s] w (OfR w (f s)) := by
  obtain ⟨b, n, fm, hg, hm, hn, hFb, hne, h5, h6⟩ := h.out
  have c0 : w.cell? ⟨g, 0, none⟩ = some (.map (some b)) := cell_of_row w g 0 _ _ _ hg
  have hlk := hm.lookup Try.underlying9 Try.underlying72 (z := .pointer none) (by kernel_rfl) s hs
  cases hf : fm s with
  | none =>
    rw [hf] at hlk
    have HE := Lib.hid (h5 s hf)
    clear h hg hm h5 h6 hf
    go_enter Try.func38, Try.ntmps38
    (repeat' ((fail_if_success at_builtin); first | go_values | go_skip | go_guarded | go_step | go_upon))
    go_ret
    rw [HE.out]
    exact ⟨w.heap.size, rfl, tenRd_none _ _ (heap_alloc_new w _), (Below.refl _ _).alloc (Nat.le_refl _) _⟩
  | some v =>
    obtain ⟨tb, rfl, ht⟩ := h6 s v hf
    rw [hf] at hlk
    have HT := Lib.hid ht.view
    clear h hg hm h5 h6 hf ht
    go_enter Try.func38, Try.ntmps38
    (repeat' ((fail_if_success at_builtin); first | go_values | go_skip | go_guarded | go_step | go_upon))
    go_ret
    exact ⟨tb, rfl, HT.out, Below.refl _ _⟩

set_option maxHeartbeats 1000000 in
theorem strCount (S : ByteArray → Nat → Prop) (F : Nat → Prop) (g cnt : Nat) (f : ByteArray → List Ev) (s : ByteArray) (w : World) (h : StrAt w S F g cnt f) (hs : s.size ≤ maxLen) :
    Calls Try.prog 12 #[.pointer (some ⟨g, 0, none⟩), .string s] w fun e w' => e = .returned (.int .i64 ((f s).length : Int)) ∧ Below w.heap.size w w' := by
  have H := Lib.hid h
  clear h
  go_enter Try.func12, Try.ntmps12
  (repeat' ((fail_if_success at_builtin); first | go_values | go_skip | go_guarded | go_step | go_upon))
  refine (strOf S F g cnt f s w H.out hs).mono ?_
  rintro _ w1 ⟨tb, rfl, ht, hB⟩
  obtain ⟨aa, ac, vm, h1, h2, h3, h4, h5, h6⟩ := ht.out
  have c0 : w1.cell? ⟨tb, 0, none⟩ = some (.slice aa (f s).length ac) := cell_of_row w1 tb 0 _ _ _ h1
  clear ht h1 h2 h5 h6
  dsimp only
  (repeat' ((fail_if_success at_builtin); first | go_values | go_skip | go_guarded | go_step | go_upon))
  go_ret
  exact ⟨rfl, hB⟩

set_option maxHeartbeats 1000000 in
theorem strSize (S : ByteArray → Nat → Prop) (F : Nat → Prop) (g cnt : Nat) (f : ByteArray → List Ev) (s : ByteArray) (w : World) (h : StrAt w S F g cnt f) (hs : s.size ≤ maxLen) :
    Calls Try.prog 20 #[.pointer (some ⟨g, 0, none⟩), .string s] w fun e w' => e = .returned (.int .i64 (szOf (f s) : Int)) ∧ Below w.heap.size w w' := by
  have H := Lib.hid h
  clear h
  go_enter Try.func20, Try.ntmps20
  (repeat' ((fail_if_success at_builtin); first | go_values | go_skip | go_guarded | go_step | go_upon))
  refine (strOf S F g cnt f s w H.out hs).mono ?_
  rintro _ w1 ⟨tb, rfl, ht, hB⟩
  obtain ⟨aa, ac, vm, h1, h2, h3, h4, h5, h6⟩ := ht.out
  have c2 : w1.cell? ⟨tb, 2, none⟩ = some (.int .i64 (szOf (f s) : Int)) := cell_of_row w1 tb 2 _ _ _ h1
  clear ht h1 h2 h5 h6
  dsimp only
  (repeat' ((fail_if_success at_builtin); first | go_values | go_skip | go_guarded | go_step | go_upon))
  go_ret
  exact ⟨rfl, hB⟩

set_option maxHeartbeats 1000000 in
theorem strNames (S : ByteArray → Nat → Prop) (F : Nat → Prop) (g cnt : Nat) (f : ByteArray → List Ev) (s : ByteArray) (w : World) (h : StrAt w S F g cnt f) (hs : s.size ≤ maxLen) :
    Calls Try.prog 14 #[.pointer (some ⟨g, 0, none⟩), .string s] w fun e w' => e = .returned (.int .i64 (namesOf (f s) : Int)) ∧ Below w.heap.size w w' := by
  have H := Lib.hid h
  clear h
  go_enter Try.func14, Try.ntmps14
  (repeat' ((fail_if_success at_builtin); first | go_values | go_skip | go_guarded | go_step | go_upon))
  refine (strOf S F g cnt f s w H.out hs).mono ?_
  rintro _ w1 ⟨tb, rfl, ht, hB⟩
  obtain ⟨aa, ac, vm, h1, h2, h3, h4, h5, h6⟩ := ht.out
  have c1 : w1.cell? ⟨tb, 1, none⟩ = some vm := cell_of_row w1 tb 1 _ _ _ h1
  have hln := fun ty => h6 ty w1 (Below.refl _ _)
  clear ht h1 h2 h5 h6
  dsimp only
  (repeat' ((fail_if_success at_builtin); first | go_values | go_skip | go_guarded | go_step | go_upon))
  go_ret
  exact ⟨rfl, hB⟩

set_option maxHeartbeats 1000000 in
theorem strVersion (S : ByteArray → Nat → Prop) (F : Nat → Prop) (g cnt : Nat) (f : ByteArray → List Ev) (s t : ByteArray) (w : World) (h : StrAt w S F g cnt f) (hs : s.size ≤ maxLen) (ht : t.size ≤ maxLen) :
    Calls Try.prog 13 #[.pointer (some ⟨g, 0, none⟩), .string s, .string t] w fun e w' => e = .returned (.int .i64 ((idxOf (f s) t).length : Int)) ∧ Below w.heap.size w w' := by
  have H := Lib.hid h
  clear h
  go_enter Try.func13, Try.ntmps13
  (repeat' ((fail_if_success at_builtin); first | go_values | go_skip | go_guarded | go_step | go_upon))
  refine (strOf S F g cnt f s w H.out hs).mono ?_
  rintro _ w1 ⟨tb, rfl, ht1, hB⟩
  obtain ⟨aa, ac, vm, h1, h2, h3, h4, h5, h6⟩ := ht1.out
  have c1 : w1.cell? ⟨tb, 1, none⟩ = some vm := cell_of_row w1 tb 1 _ _ _ h1
  obtain ⟨ia, ic, g1, g2, g3, g4⟩ := h5 t ht
  have hlk := g1 w1 (Below.refl _ _)
  clear ht1 h1 h2 h5 h6 g1 g2
  dsimp only
  (repeat' ((fail_if_success at_builtin); first | go_values | go_skip | go_guarded | go_step | go_upon))
  go_ret
  exact ⟨rfl, hB⟩

end Go.Proofs.Ythgaghpakioglaa
