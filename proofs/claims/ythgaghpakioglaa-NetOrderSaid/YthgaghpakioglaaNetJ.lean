/- Connections: All, where none is open. -/
import Derived.Test.YthgaghpakioglaaNetI
namespace Go.Proofs.Ythgaghpakioglaa
set_option linter.unusedSimpArgs false
set_option linter.unusedVariables false
open Go.RowKit
set_option maxRecDepth 10000
--@PUT2

theorem eightOf {α : Type} (l : List α) (h : l.length = 8) : ∃ a0 a1 a2 a3 a4 a5 a6 a7, l = [a0, a1, a2, a3, a4, a5, a6, a7] := by
  match l, h with
  | [a0, a1, a2, a3, a4, a5, a6, a7], _ => exact ⟨_, _, _, _, _, _, _, _, rfl⟩

set_option maxHeartbeats 4000000 in
theorem netAllNone (g : Nat) (S : Nat → Prop) (ms : List Cn) (w : World) (h : NetM w g S ms) (ho : ∀ m ∈ ms, m.op = false) :
    Calls Try.prog 60 #[.pointer (some ⟨g, 0, Option.none⟩)] w fun e w' => e = .returned (.slice Option.none 0 0) ∧ Below w.heap.size w w' := by
  obtain ⟨cs, hA, rfl, hoff⟩ := h
  have hoc : ∀ c ∈ cs, c.op = false := fun c hc => ho c.sem (List.mem_map.2 ⟨c, hc, rfl⟩)
  clear ho
  obtain ⟨x0, x1, x2, x3, x4, x5, x6, x7, rfl⟩ := eightOf cs hA.len
  have hrow := hA.row
  have hra : w.rangeAt g 0 ([x0, x1, x2, x3, x4, x5, x6, x7].flatMap Conn.cells) := rangeAt_whole hrow
  simp only [List.mem_cons, forall_eq_or_imp] at hoc
  obtain ⟨o0, o1, o2, o3, o4, o5, o6, o7, _⟩ := hoc
  obtain ⟨_, a0, n0, c0, _, b0, m0, d0, _⟩ := x0
  obtain ⟨_, a1, n1, c1, _, b1, m1, d1, _⟩ := x1
  obtain ⟨_, a2, n2, c2, _, b2, m2, d2, _⟩ := x2
  obtain ⟨_, a3, n3, c3, _, b3, m3, d3, _⟩ := x3
  obtain ⟨_, a4, n4, c4, _, b4, m4, d4, _⟩ := x4
  obtain ⟨_, a5, n5, c5, _, b5, m5, d5, _⟩ := x5
  obtain ⟨_, a6, n6, c6, _, b6, m6, d6, _⟩ := x6
  obtain ⟨_, a7, n7, c7, _, b7, m7, d7, _⟩ := x7
  dsimp only at o0 o1 o2 o3 o4 o5 o6 o7
  subst o0 o1 o2 o3 o4 o5 o6 o7
  simp only [List.flatMap_cons, List.flatMap_nil, Conn.cells, List.cons_append, List.nil_append, List.append_nil] at hra
  have hu := Try.underlying98
  obtain ⟨L, hL⟩ : ∃ L, L = ([Value.bool false, Value.slice a0 n0 c0, Value.slice b0 m0 d0, Value.bool false, Value.slice a1 n1 c1,
      Value.slice b1 m1 d1, Value.bool false, Value.slice a2 n2 c2, Value.slice b2 m2 d2, Value.bool false,
      Value.slice a3 n3 c3, Value.slice b3 m3 d3, Value.bool false, Value.slice a4 n4 c4, Value.slice b4 m4 d4,
      Value.bool false, Value.slice a5 n5 c5, Value.slice b5 m5 d5, Value.bool false, Value.slice a6 n6 c6,
      Value.slice b6 m6 d6, Value.bool false, Value.slice a7 n7 c7, Value.slice b7 m7 d7] : List Value) := ⟨_, rfl⟩
  rw [← hL] at hra
  have hsz : (Try.prog.info? 98).map (·.size) = some L.length := by rw [hL]; kernel_rfl
  have HL := Lib.hid hL
  clear hrow hoff hA hL
  go_enter Try.func60, Try.ntmps60
  (repeat' ((fail_if_success at_builtin); (fail_if_success (show wpList _ _ _ ({ dst := some 10, op := _, type := _, pos := _, after := _, guard := _ } :: _) _ _)); first | ((refine wpList_load_mid rfl 98 _ rfl g 0 rfl L _ hra hu rfl hsz ?_)) | go_values | go_skip | go_guarded | go_step | go_upon))
  rw [HL.out]
  (repeat' ((fail_if_success at_builtin); first | go_values | go_skip | go_guarded | go_step | go_upon))
  go_loopw [3, 10] (fun o i wr => ∃ k : Nat, k ≤ 8 ∧ i = .int .i64 k ∧ o = .slice Option.none 0 0 ∧ Below w.heap.size w wr) (fun _ i _ => 8 - (intOf i).toNat)
  case atStart => exact ⟨0, by omega, rfl, rfl, Below.refl _ _⟩
  case round =>
    obtain ⟨k, hk, rfl, rfl, hB⟩ := hrel
    by_cases hlt : k < 8
    · obtain ⟨xa, xn, xc, ya, yn, yc, hidx⟩ : ∃ xa xn xc ya yn yc, ∀ w, (Instr.index 98 (.agg #[Value.bool false, Value.slice a0 n0 c0, Value.slice b0 m0 d0, Value.bool false, Value.slice a1 n1 c1, Value.slice b1 m1 d1, Value.bool false, Value.slice a2 n2 c2, Value.slice b2 m2 d2, Value.bool false, Value.slice a3 n3 c3, Value.slice b3 m3 d3, Value.bool false, Value.slice a4 n4 c4, Value.slice b4 m4 d4, Value.bool false, Value.slice a5 n5 c5, Value.slice b5 m5 d5, Value.bool false, Value.slice a6 n6 c6, Value.slice b6 m6 d6, Value.bool false, Value.slice a7 n7 c7, Value.slice b7 m7 d7]) (.int .i64 (k : Int))).run Try.prog w = .ok (.agg #[.bool false, .slice xa xn xc, .slice ya yn yc]) w := by
        have hc : k = 0 ∨ k = 1 ∨ k = 2 ∨ k = 3 ∨ k = 4 ∨ k = 5 ∨ k = 6 ∨ k = 7 := by omega
        rcases hc with rfl | rfl | rfl | rfl | rfl | rfl | rfl | rfl
        · exact ⟨a0, n0, c0, b0, m0, d0, fun w => by kernel_rfl⟩
        · exact ⟨a1, n1, c1, b1, m1, d1, fun w => by kernel_rfl⟩
        · exact ⟨a2, n2, c2, b2, m2, d2, fun w => by kernel_rfl⟩
        · exact ⟨a3, n3, c3, b3, m3, d3, fun w => by kernel_rfl⟩
        · exact ⟨a4, n4, c4, b4, m4, d4, fun w => by kernel_rfl⟩
        · exact ⟨a5, n5, c5, b5, m5, d5, fun w => by kernel_rfl⟩
        · exact ⟨a6, n6, c6, b6, m6, d6, fun w => by kernel_rfl⟩
        · exact ⟨a7, n7, c7, b7, m7, d7, fun w => by kernel_rfl⟩
      (repeat' ((fail_if_success at_builtin); first | go_values | go_skip | go_guarded | go_step | go_upon))
      go_roundw
      case rel => exact ⟨k + 1, by omega, by go_num, rfl, hB.alloc hB.size _⟩
      case measure => simp [intOf]; omega
    · obtain rfl : k = 8 := by omega
      rw [show ((8 : Nat) : Int) = 8 from rfl]
      (repeat' ((fail_if_success at_builtin); first | go_values | go_skip | go_guarded | go_step | go_upon))
      go_ret
      exact ⟨rfl, hB⟩

end Go.Proofs.Ythgaghpakioglaa
