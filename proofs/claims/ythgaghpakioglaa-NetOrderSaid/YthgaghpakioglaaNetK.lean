/- Connections: a call of whatever kind. -/
import Derived.Test.YthgaghpakioglaaNetJ
import Derived.Test.YthgaghpakioglaaOp29
namespace Go.Proofs.Ythgaghpakioglaa
set_option linter.unusedSimpArgs false
set_option linter.unusedVariables false
open Go.RowKit
set_option maxRecDepth 10000
--@PUT2

/-- What a call delivers, its error, and what connections hold behind it. -/
def doesM (ms : List Cn) (o : Op29) : List UInt8 × Int × List Cn :=
  if o.kd = 0 then ([], openM ms o.c) else if o.kd = 1 then ([], closeM ms o.c) else if o.kd = 2 then ([], sendM ms o.c o.bl)
  else if o.kd = 3 then ((deliverM ms o.c o.n).1, 0, (deliverM ms o.c o.n).2) else if o.kd = 4 then ([], replyM ms o.c o.bl) else ([], 0, ms)
def GotO (w : World) (g : Nat) (S : Nat → Prop) (r : List UInt8 × Int × List Cn) (e : Ending) (w' : World) : Prop :=
  ∃ (a : Option Addr) (k : Nat), e = .returned (.tuple #[.slice a r.1.length k, .int .i64 r.2.1]) ∧ r.1.length ≤ k ∧ RdB w' a r.1 ∧ NetM w' g S r.2.2 ∧ w.grownBy w' (some g)

set_option maxHeartbeats 4000000 in
theorem netDoes (g : Nat) (S : Nat → Prop) (o : Op29) (ms : List Cn) (w : World) (h : NetM w g S ms) (hS : ∀ k, S k → k < w.heap.size) (ho : o.Ok w) (hm : ∀ m ∈ ms, m.w.length + o.bn ≤ 100000 ∧ m.r.length + o.bn ≤ 100000) :
    Calls Try.prog 32 #[.pointer (some ⟨g, 0, Option.none⟩), .agg o.cells.toArray] w (GotO w g S (doesM ms o)) := by
  obtain ⟨kd, c, n, ba, bn, bc, bl⟩ := o
  unfold Op29.cells
  dsimp only
  obtain ⟨w0, hw0⟩ : ∃ w0, w.alloc (.cells #[.int .i64 kd, .int .i64 c, .int .i64 n, .slice ba bn bc] 63) = w0 := ⟨_, rfl⟩
  have hB0 : Below w.heap.size w w0 := by rw [← hw0]; exact (Below.refl _ _).alloc (Nat.le_refl _) _
  have hg0 : w0.heap[w.heap.size]? = some (.cells #[.int .i64 kd, .int .i64 c, .int .i64 n, .slice ba bn bc] 63 (0, 0)) := by rw [← hw0]; exact heap_alloc_new w _
  have c0 : w0.cell? ⟨w.heap.size, 0, Option.none⟩ = some (.int .i64 kd) := cell_of_row w0 w.heap.size 0 _ _ _ hg0
  have c1 : w0.cell? ⟨w.heap.size, 1, Option.none⟩ = some (.int .i64 c) := cell_of_row w0 w.heap.size 1 _ _ _ hg0
  have c2 : w0.cell? ⟨w.heap.size, 2, Option.none⟩ = some (.int .i64 n) := cell_of_row w0 w.heap.size 2 _ _ _ hg0
  have c3 : w0.cell? ⟨w.heap.size, 3, Option.none⟩ = some (.slice ba bn bc) := cell_of_row w0 w.heap.size 3 _ _ _ hg0
  have HN := Lib.hid (h.below hB0)
  have HW := Lib.hid hw0
  have HO := Lib.hid (ho.below hB0 (Nat.le_refl _))
  have HS := Lib.hid (show ∀ k, S k → k < w0.heap.size from fun k hk => Nat.lt_of_lt_of_le (hS k hk) hB0.size)
  have HM := Lib.hid hm
  have HB0 := Lib.hid hB0
  have hcb := ho.c
  have hnb := ho.n
  dsimp only at hcb hnb
  clear hw0 hg0 h ho hS hm hB0
  by_cases k0 : kd = 0
  · subst k0
    have HR := Lib.hid (show doesM ms ⟨0, c, n, ba, bn, bc, bl⟩ = ([], openM ms c) from rfl)
    go_enter Try.func32, Try.ntmps32
    (repeat' ((fail_if_success at_builtin); first | go_values | go_skip | go_guarded | go_step | go_upon))
    rw [HW.out]
    (repeat' ((fail_if_success at_builtin); first | go_values | go_skip | go_guarded | go_step | go_upon))
    refine (netOpenM g S c ms w0 HN.out hcb).mono ?_
    rintro _ w1 ⟨rfl, h1, h2⟩
    dsimp only
    have H1 := Lib.hid h1
    clear h1
    (repeat' ((fail_if_success at_builtin); first | go_values | go_skip | go_guarded | go_step | go_upon))
    refine bodyPost_ret (v := .tuple #[.slice Option.none 0 0, .int .i64 (openM ms c).1]) (by simp [results, Try.results32, go_sem]) rfl ?_
    rw [HR.out]
    exact ⟨Option.none, 0, rfl, Nat.le_refl _, RdC.nil _ _, H1.out, (grown_below HB0.out _).trans h2⟩
  by_cases k1 : kd = 1
  · subst k1
    have HR := Lib.hid (show doesM ms ⟨1, c, n, ba, bn, bc, bl⟩ = ([], closeM ms c) from rfl)
    go_enter Try.func32, Try.ntmps32
    (repeat' ((fail_if_success at_builtin); first | go_values | go_skip | go_guarded | go_step | go_upon))
    rw [HW.out]
    (repeat' ((fail_if_success at_builtin); first | go_values | go_skip | go_guarded | go_step | go_upon))
    refine (netCloseM g S c ms w0 HN.out hcb).mono ?_
    rintro _ w1 ⟨rfl, h1, h2⟩
    dsimp only
    have H1 := Lib.hid h1
    clear h1
    (repeat' ((fail_if_success at_builtin); first | go_values | go_skip | go_guarded | go_step | go_upon))
    refine bodyPost_ret (v := .tuple #[.slice Option.none 0 0, .int .i64 (closeM ms c).1]) (by simp [results, Try.results32, go_sem]) rfl ?_
    rw [HR.out]
    exact ⟨Option.none, 0, rfl, Nat.le_refl _, RdC.nil _ _, H1.out, (grown_below HB0.out _).trans h2⟩
  by_cases k2 : kd = 2
  · subst k2
    have HR := Lib.hid (show doesM ms ⟨2, c, n, ba, bn, bc, bl⟩ = ([], sendM ms c bl) from rfl)
    go_enter Try.func32, Try.ntmps32
    (repeat' ((fail_if_success at_builtin); first | go_values | go_skip | go_guarded | go_step | go_upon))
    rw [HW.out]
    (repeat' ((fail_if_success at_builtin); first | go_values | go_skip | go_guarded | go_step | go_upon))
    refine (netSend g S c ba bn bc bl ms w0 HN.out HS.out HO.out.rd HO.out.len (fun m hm => (HM.out m hm).1) hcb).mono ?_
    rintro _ w1 ⟨rfl, h1, h2⟩
    dsimp only
    have H1 := Lib.hid h1
    clear h1
    (repeat' ((fail_if_success at_builtin); first | go_values | go_skip | go_guarded | go_step | go_upon))
    refine bodyPost_ret (v := .tuple #[.slice Option.none 0 0, .int .i64 (sendM ms c bl).1]) (by simp [results, Try.results32, go_sem]) rfl ?_
    rw [HR.out]
    exact ⟨Option.none, 0, rfl, Nat.le_refl _, RdC.nil _ _, H1.out, (grown_below HB0.out _).trans h2⟩
  by_cases k3 : kd = 3
  · subst k3
    have HR := Lib.hid (show doesM ms ⟨3, c, n, ba, bn, bc, bl⟩ = ((deliverM ms c n).1, 0, (deliverM ms c n).2) from rfl)
    go_enter Try.func32, Try.ntmps32
    (repeat' ((fail_if_success at_builtin); first | go_values | go_skip | go_guarded | go_step | go_upon))
    rw [HW.out]
    (repeat' ((fail_if_success at_builtin); first | go_values | go_skip | go_guarded | go_step | go_upon))
    refine (netDeliver g S c n ms w0 HN.out hcb hnb).mono ?_
    rintro _ w1 ⟨a2, k2, rfl, h0, hr2, h1, h2⟩
    dsimp only
    have H1 := Lib.hid h1
    have HRD := Lib.hid hr2
    clear h1 hr2
    (repeat' ((fail_if_success at_builtin); first | go_values | go_skip | go_guarded | go_step | go_upon))
    refine bodyPost_ret (v := .tuple #[.slice a2 (deliverM ms c n).1.length k2, .int .i64 0]) (by simp [results, Try.results32, go_sem]) rfl ?_
    rw [HR.out]
    exact ⟨a2, k2, rfl, h0, HRD.out, H1.out, (grown_below HB0.out _).trans h2⟩
  by_cases k4 : kd = 4
  · subst k4
    have HR := Lib.hid (show doesM ms ⟨4, c, n, ba, bn, bc, bl⟩ = ([], replyM ms c bl) from rfl)
    go_enter Try.func32, Try.ntmps32
    (repeat' ((fail_if_success at_builtin); first | go_values | go_skip | go_guarded | go_step | go_upon))
    rw [HW.out]
    (repeat' ((fail_if_success at_builtin); first | go_values | go_skip | go_guarded | go_step | go_upon))
    refine (netReply g S c ba bn bc bl ms w0 HN.out HS.out HO.out.rd HO.out.len (fun m hm => (HM.out m hm).2) hcb).mono ?_
    rintro _ w1 ⟨rfl, h1, h2⟩
    dsimp only
    have H1 := Lib.hid h1
    clear h1
    (repeat' ((fail_if_success at_builtin); first | go_values | go_skip | go_guarded | go_step | go_upon))
    refine bodyPost_ret (v := .tuple #[.slice Option.none 0 0, .int .i64 (replyM ms c bl).1]) (by simp [results, Try.results32, go_sem]) rfl ?_
    rw [HR.out]
    exact ⟨Option.none, 0, rfl, Nat.le_refl _, RdC.nil _ _, H1.out, (grown_below HB0.out _).trans h2⟩
  have HR := Lib.hid (show doesM ms ⟨kd, c, n, ba, bn, bc, bl⟩ = ([], 0, ms) by unfold doesM; rw [if_neg k0, if_neg k1, if_neg k2, if_neg k3, if_neg k4])
  have b0 : (kd == 0) = false := by simp [k0]
  have b1 : (kd == 1) = false := by simp [k1]
  have b2 : (kd == 2) = false := by simp [k2]
  have b3 : (kd == 3) = false := by simp [k3]
  have b4 : (kd == 4) = false := by simp [k4]
  clear k0 k1 k2 k3 k4
  go_enter Try.func32, Try.ntmps32
  (repeat' ((fail_if_success at_builtin); first | go_values | go_skip | go_guarded | go_step | go_upon))
  rw [HW.out]
  (repeat' ((fail_if_success at_builtin); first | go_values | go_skip | go_guarded | go_step | go_upon))
  refine bodyPost_ret (v := .tuple #[.slice Option.none 0 0, .int .i64 0]) (by simp [results, Try.results32, go_sem]) rfl ?_
  rw [HR.out]
  exact ⟨Option.none, 0, rfl, Nat.le_refl _, RdC.nil _ _, HN.out, grown_below HB0.out _⟩

end Go.Proofs.Ythgaghpakioglaa
