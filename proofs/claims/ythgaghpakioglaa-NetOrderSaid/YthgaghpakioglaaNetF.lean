/- Connections in memory (package net): Sent. -/
import Derived.Test.YthgaghpakioglaaNetE
import Derived.Test.YthgaghpakioglaaClone
namespace Go.Proofs.Ythgaghpakioglaa
set_option linter.unusedSimpArgs false
set_option linter.unusedVariables false
open Go.RowKit
set_option maxRecDepth 10000
--@PUT2

/-- What a connection tells of replies. -/
def sentB (cs : List Conn) (c : Int) : List UInt8 := match connAt cs c with
  | Option.none => []
  | some x => x.rl

set_option maxHeartbeats 1000000 in
theorem netSent (g : Nat) (c : Int) (cs : List Conn) (w : World) (h : NetAt w g cs) (hc : -9223372036854775808 ≤ c ∧ c ≤ 9223372036854775807) :
    Calls Try.prog 35 #[.pointer (some ⟨g, 0, Option.none⟩), .int .i64 c] w fun e w' => ∃ (a : Option Addr) (k : Nat), e = .returned (.slice a (sentB cs c).length k) ∧ (sentB cs c).length ≤ k ∧ RdB w' a (sentB cs c) ∧ Below w.heap.size w w' := by
  have HN := Lib.hid h
  by_cases h1 : 1 ≤ c ∧ c ≤ 8
  · obtain ⟨k, hk, hkc, hca, hcp⟩ := connAt_some h.len c h1
    have hcell := (h.cell k hk).2.2
    have hx := h.ok cs[k] (List.getElem_mem hk)
    have hs : sentB cs c = cs[k].rl := by unfold sentB; rw [hca]
    rw [hs]
    generalize cs[k] = y at *
    have HP := Lib.hid (hcp g)
    have HX := Lib.hid hx
    clear h hca hcp hkc hs hx
    have hm := HX.out.rmax
    have hcp2 := HX.out.rcap
    go_enter Try.func35, Try.ntmps35
    (repeat' ((fail_if_success at_builtin); first | go_values | go_skip | go_guarded | go_step | go_upon))
    refine (netAt_ g c w hc).mono ?_
    rintro _ w1 ⟨rfl, rfl⟩
    dsimp only
    rw [HP.out]
    (repeat' ((fail_if_success at_builtin); first | go_values | go_skip | go_guarded | go_step | go_upon))
    refine (bytesClone y.ra y.rn y.rc y.rl w HX.out.rrd HX.out.rlen (by omega)).mono ?_
    rintro _ w2 ⟨a2, k2, rfl, hk2, hr2, hB2, _⟩
    dsimp only
    have HR2 := Lib.hid hr2
    have HLN := Lib.hid HX.out.rlen
    clear hr2
    (repeat' ((fail_if_success at_builtin); first | go_values | go_skip | go_guarded | go_step | go_upon))
    go_ret
    rw [HLN.out]
    exact ⟨a2, k2, rfl, hk2, HR2.out, hB2⟩
  · obtain ⟨hca, hcp⟩ := connAt_none cs c h1
    have hs : sentB cs c = [] := by unfold sentB; rw [hca]
    rw [hs]
    have HP := Lib.hid (hcp g)
    clear h hca hcp hs
    go_enter Try.func35, Try.ntmps35
    (repeat' ((fail_if_success at_builtin); first | go_values | go_skip | go_guarded | go_step | go_upon))
    refine (netAt_ g c w hc).mono ?_
    rintro _ w1 ⟨rfl, rfl⟩
    dsimp only
    rw [HP.out]
    (repeat' ((fail_if_success at_builtin); first | go_values | go_skip | go_guarded | go_step | go_upon))
    go_ret
    exact ⟨Option.none, 0, rfl, Nat.le_refl _, RdC.nil _ _, Below.refl _ _⟩

end Go.Proofs.Ythgaghpakioglaa
