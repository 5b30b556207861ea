/- Connections in memory (package net): with (a function value is called). -/
import Derived.Test.YthgaghpakioglaaNetB
namespace Go.Proofs.Ythgaghpakioglaa
set_option linter.unusedSimpArgs false
set_option linter.unusedVariables false
open Go.RowKit
set_option maxRecDepth 10000
--@PUT2

set_option maxHeartbeats 1000000 in
theorem netWithNo (g : Nat) (c : Int) (cs : List Conn) (v : Value) (w : World) (h : NetAt w g cs) (hc : -9223372036854775808 ≤ c ∧ c ≤ 9223372036854775807) (ho : isOpen cs c = false) :
    Calls Try.prog 63 #[.pointer (some ⟨g, 0, Option.none⟩), .int .i64 c, v] w fun e w' => e = .returned (.int .i64 12) ∧ w = w' := by
  have HN := Lib.hid h; clear h
  go_enter Try.func63, Try.ntmps63
  (repeat' ((fail_if_success at_builtin); first | go_values | go_skip | go_guarded | go_step | go_upon))
  refine (netIs g c cs w HN.out hc).mono ?_
  rintro _ w1 ⟨rfl, rfl⟩
  dsimp only
  rw [ho]
  (repeat' ((fail_if_success at_builtin); first | go_values | go_skip | go_guarded | go_step | go_upon))
  go_ret
  exact ⟨rfl, rfl⟩

set_option maxHeartbeats 1000000 in
theorem netWithSend (g k z : Nat) (c : Int) (cs : List Conn) (w : World) (Q : Ending → World → Prop) (h : NetAt w g cs) (hc : -9223372036854775808 ≤ c ∧ c ≤ 9223372036854775807) (ho : isOpen cs c = true) (hp : connP g c = some ⟨g, k * 3, Option.none⟩)
    (hcl : Calls Try.prog 70 #[.pointer (some ⟨g, k * 3, Option.none⟩), .pointer (some ⟨z, 0, Option.none⟩)] w fun e w' => e = .returned (.tuple #[]) ∧ Q e w') :
    Calls Try.prog 63 #[.pointer (some ⟨g, 0, Option.none⟩), .int .i64 c, .func (.func 70) #[] #[.pointer (some ⟨z, 0, Option.none⟩)]] w fun e w' => e = .returned (.int .i64 0) ∧ ∃ e', Q e' w' := by
  have HN := Lib.hid h; clear h
  have HCL := Lib.hid hcl; clear hcl
  have HP := Lib.hid hp; clear hp
  go_enter Try.func63, Try.ntmps63
  (repeat' ((fail_if_success at_builtin); first | go_values | go_skip | go_guarded | go_step | go_upon))
  refine (netIs g c cs w HN.out hc).mono ?_
  rintro _ w1 ⟨rfl, rfl⟩
  dsimp only
  rw [ho]
  (repeat' ((fail_if_success at_builtin); first | go_values | go_skip | go_guarded | go_step | go_upon))
  refine (netAt_ g c w hc).mono ?_
  rintro _ w1 ⟨rfl, rfl⟩
  dsimp only
  rw [HP.out]
  (repeat' ((fail_if_success at_builtin); first | go_values | go_skip | go_guarded | go_step | go_upon))
  refine HCL.out.mono ?_
  rintro _ w2 ⟨rfl, hQ⟩
  dsimp only
  (repeat' ((fail_if_success at_builtin); first | go_values | go_skip | go_guarded | go_step | go_upon))
  go_ret
  exact ⟨rfl, _, hQ⟩

set_option maxHeartbeats 1000000 in
theorem netWithReply (g k z : Nat) (c : Int) (cs : List Conn) (w : World) (Q : Ending → World → Prop) (h : NetAt w g cs) (hc : -9223372036854775808 ≤ c ∧ c ≤ 9223372036854775807) (ho : isOpen cs c = true) (hp : connP g c = some ⟨g, k * 3, Option.none⟩)
    (hcl : Calls Try.prog 72 #[.pointer (some ⟨g, k * 3, Option.none⟩), .pointer (some ⟨z, 0, Option.none⟩)] w fun e w' => e = .returned (.tuple #[]) ∧ Q e w') :
    Calls Try.prog 63 #[.pointer (some ⟨g, 0, Option.none⟩), .int .i64 c, .func (.func 72) #[] #[.pointer (some ⟨z, 0, Option.none⟩)]] w fun e w' => e = .returned (.int .i64 0) ∧ ∃ e', Q e' w' := by
  have HN := Lib.hid h; clear h
  have HCL := Lib.hid hcl; clear hcl
  have HP := Lib.hid hp; clear hp
  go_enter Try.func63, Try.ntmps63
  (repeat' ((fail_if_success at_builtin); first | go_values | go_skip | go_guarded | go_step | go_upon))
  refine (netIs g c cs w HN.out hc).mono ?_
  rintro _ w1 ⟨rfl, rfl⟩
  dsimp only
  rw [ho]
  (repeat' ((fail_if_success at_builtin); first | go_values | go_skip | go_guarded | go_step | go_upon))
  refine (netAt_ g c w hc).mono ?_
  rintro _ w1 ⟨rfl, rfl⟩
  dsimp only
  rw [HP.out]
  (repeat' ((fail_if_success at_builtin); first | go_values | go_skip | go_guarded | go_step | go_upon))
  refine HCL.out.mono ?_
  rintro _ w2 ⟨rfl, hQ⟩
  dsimp only
  (repeat' ((fail_if_success at_builtin); first | go_values | go_skip | go_guarded | go_step | go_upon))
  go_ret
  exact ⟨rfl, _, hQ⟩

set_option maxHeartbeats 1000000 in
theorem netWithClose (g k : Nat) (c : Int) (cs : List Conn) (w : World) (Q : Ending → World → Prop) (h : NetAt w g cs) (hc : -9223372036854775808 ≤ c ∧ c ≤ 9223372036854775807) (ho : isOpen cs c = true) (hp : connP g c = some ⟨g, k * 3, Option.none⟩)
    (hcl : Calls Try.prog 73 #[.pointer (some ⟨g, k * 3, Option.none⟩)] w fun e w' => e = .returned (.tuple #[]) ∧ Q e w') :
    Calls Try.prog 63 #[.pointer (some ⟨g, 0, Option.none⟩), .int .i64 c, .func (.func 73) #[] #[]] w fun e w' => e = .returned (.int .i64 0) ∧ ∃ e', Q e' w' := by
  have HN := Lib.hid h; clear h
  have HCL := Lib.hid hcl; clear hcl
  have HP := Lib.hid hp; clear hp
  go_enter Try.func63, Try.ntmps63
  (repeat' ((fail_if_success at_builtin); first | go_values | go_skip | go_guarded | go_step | go_upon))
  refine (netIs g c cs w HN.out hc).mono ?_
  rintro _ w1 ⟨rfl, rfl⟩
  dsimp only
  rw [ho]
  (repeat' ((fail_if_success at_builtin); first | go_values | go_skip | go_guarded | go_step | go_upon))
  refine (netAt_ g c w hc).mono ?_
  rintro _ w1 ⟨rfl, rfl⟩
  dsimp only
  rw [HP.out]
  (repeat' ((fail_if_success at_builtin); first | go_values | go_skip | go_guarded | go_step | go_upon))
  refine HCL.out.mono ?_
  rintro _ w2 ⟨rfl, hQ⟩
  dsimp only
  (repeat' ((fail_if_success at_builtin); first | go_values | go_skip | go_guarded | go_step | go_upon))
  go_ret
  exact ⟨rfl, _, hQ⟩

set_option maxHeartbeats 1000000 in
theorem netWithDeliver (g k z y : Nat) (c : Int) (cs : List Conn) (w : World) (Q : Ending → World → Prop) (h : NetAt w g cs) (hc : -9223372036854775808 ≤ c ∧ c ≤ 9223372036854775807) (ho : isOpen cs c = true) (hp : connP g c = some ⟨g, k * 3, Option.none⟩)
    (hcl : Calls Try.prog 65 #[.pointer (some ⟨g, k * 3, Option.none⟩), .pointer (some ⟨z, 0, Option.none⟩), .pointer (some ⟨y, 0, Option.none⟩)] w fun e w' => e = .returned (.tuple #[]) ∧ Q e w') :
    Calls Try.prog 63 #[.pointer (some ⟨g, 0, Option.none⟩), .int .i64 c, .func (.func 65) #[] #[.pointer (some ⟨z, 0, Option.none⟩), .pointer (some ⟨y, 0, Option.none⟩)]] w fun e w' => e = .returned (.int .i64 0) ∧ ∃ e', Q e' w' := by
  have HN := Lib.hid h; clear h
  have HCL := Lib.hid hcl; clear hcl
  have HP := Lib.hid hp; clear hp
  go_enter Try.func63, Try.ntmps63
  (repeat' ((fail_if_success at_builtin); first | go_values | go_skip | go_guarded | go_step | go_upon))
  refine (netIs g c cs w HN.out hc).mono ?_
  rintro _ w1 ⟨rfl, rfl⟩
  dsimp only
  rw [ho]
  (repeat' ((fail_if_success at_builtin); first | go_values | go_skip | go_guarded | go_step | go_upon))
  refine (netAt_ g c w hc).mono ?_
  rintro _ w1 ⟨rfl, rfl⟩
  dsimp only
  rw [HP.out]
  (repeat' ((fail_if_success at_builtin); first | go_values | go_skip | go_guarded | go_step | go_upon))
  refine HCL.out.mono ?_
  rintro _ w2 ⟨rfl, hQ⟩
  dsimp only
  (repeat' ((fail_if_success at_builtin); first | go_values | go_skip | go_guarded | go_step | go_upon))
  go_ret
  exact ⟨rfl, _, hQ⟩

set_option maxHeartbeats 1000000 in
theorem netWithWaits (g k z : Nat) (c : Int) (cs : List Conn) (w : World) (Q : Ending → World → Prop) (h : NetAt w g cs) (hc : -9223372036854775808 ≤ c ∧ c ≤ 9223372036854775807) (ho : isOpen cs c = true) (hp : connP g c = some ⟨g, k * 3, Option.none⟩)
    (hcl : Calls Try.prog 64 #[.pointer (some ⟨g, k * 3, Option.none⟩), .pointer (some ⟨z, 0, Option.none⟩)] w fun e w' => e = .returned (.tuple #[]) ∧ Q e w') :
    Calls Try.prog 63 #[.pointer (some ⟨g, 0, Option.none⟩), .int .i64 c, .func (.func 64) #[] #[.pointer (some ⟨z, 0, Option.none⟩)]] w fun e w' => e = .returned (.int .i64 0) ∧ ∃ e', Q e' w' := by
  have HN := Lib.hid h; clear h
  have HCL := Lib.hid hcl; clear hcl
  have HP := Lib.hid hp; clear hp
  go_enter Try.func63, Try.ntmps63
  (repeat' ((fail_if_success at_builtin); first | go_values | go_skip | go_guarded | go_step | go_upon))
  refine (netIs g c cs w HN.out hc).mono ?_
  rintro _ w1 ⟨rfl, rfl⟩
  dsimp only
  rw [ho]
  (repeat' ((fail_if_success at_builtin); first | go_values | go_skip | go_guarded | go_step | go_upon))
  refine (netAt_ g c w hc).mono ?_
  rintro _ w1 ⟨rfl, rfl⟩
  dsimp only
  rw [HP.out]
  (repeat' ((fail_if_success at_builtin); first | go_values | go_skip | go_guarded | go_step | go_upon))
  refine HCL.out.mono ?_
  rintro _ w2 ⟨rfl, hQ⟩
  dsimp only
  (repeat' ((fail_if_success at_builtin); first | go_values | go_skip | go_guarded | go_step | go_upon))
  go_ret
  exact ⟨rfl, _, hQ⟩

end Go.Proofs.Ythgaghpakioglaa
