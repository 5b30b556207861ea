/- What sealerykit.Row answers: a row of bytes. -/
import Derived.Test.YtdpfemhfmofmlaaDoorKit
namespace Go.Proofs.YtdpfemhfmofmlaaDoor
set_option linter.unusedSimpArgs false
set_option linter.unusedVariables false
open Go.RowKit
set_option maxRecDepth 10000

def rowL (n : Nat) : List UInt8 := (List.range n).map fun i => u8 (((7 + i) % 251 : Nat) : Int)
theorem rowL_succ (n : Nat) : rowL (n + 1) = rowL n ++ [u8 (((7 + n) % 251 : Nat) : Int)] := by simp [rowL, List.range_succ]
theorem rowL_length (n : Nat) : (rowL n).length = n := by simp [rowL]

set_option maxHeartbeats 1000000 in
theorem kitRow (n : Nat) (w : World) (hn : n ≤ 1000000) :
    Calls Tryd.prog 35 #[.int .i64 n] w (GotB w n (rowL n)) := by
  go_enter Tryd.func35, Tryd.ntmps35
  (repeat' ((fail_if_success at_builtin); first | go_values | go_skip | go_guarded | go_step | go_upon))
  go_loopw [3, 4] (fun o i wr => ∃ k : Nat, k ≤ n ∧ i = .int .i64 k ∧ Below w.heap.size w wr ∧ wr.ownsRow w.heap.size 5 1 o k (bvs (rowL k))) (fun _ i _ => n - (intOf i).toNat)
  case atStart => exact ⟨0, by omega, rfl, Below.refl _ _, World.ownsRow_nil _ _ _ _⟩
  case round =>
    obtain ⟨k, hk, rfl, hB, hO⟩ := hrel
    by_cases hlt : k < n
    · have e1 : ((7 : Int) + (k : Int)).tmod 251 = (((7 + k) % 251 : Nat) : Int) := by rw [Int.tmod_eq_emod_of_nonneg (by omega)]; omega
      have hlt2 : (7 + k) % 251 < 251 := Nat.mod_lt _ (by decide)
      have HN := Lib.hid (rowL_succ k)
      generalize (7 + k) % 251 = m at *
      (repeat' ((fail_if_success at_builtin); first | go_values | go_skip | go_guarded | go_step | go_upon))
      refine app1 wr (m : Int) (by omega) rfl _ _ rfl w.heap.size _ _ _ rfl hO rfl (by omega) hB.size ?_
      intro a2 c2 w2 hc2 hr2 hO2 hg2
      have hB2 : Below w.heap.size w w2 := hB.grown hg2 hB.size (fun g e => (hO.lt g e).1)
      rw [← HN.out] at hO2
      (repeat' ((fail_if_success at_builtin); first | go_values | go_skip | go_guarded | go_step | go_upon))
      go_roundw
      case rel => exact ⟨k + 1, by omega, by go_num, hB2, hO2⟩
      case measure => simp [intOf]; omega
    · (repeat' ((fail_if_success at_builtin); first | go_values | go_skip | go_guarded | go_step | go_upon))
      go_ret
      obtain rfl : k = n := by omega
      exact gotB hB hO

end Go.Proofs.YtdpfemhfmofmlaaDoor
