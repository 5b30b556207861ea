/- Words of 32 bits: how a word is turned. -/
import Derived.Test.YtdpfemhfmofmlaaDoorWord
import Derived.Test.YtdpfemhfmofmlaaDoorProg
namespace Go.Proofs.YtdpfemhfmofmlaaDoor
open Go.RowKit
set_option maxRecDepth 10000

theorem rightW (x : UInt32) (n : Nat) (hn : 1 ≤ n ∧ n ≤ 31) (w : World) :
    Calls Tryd.prog 107 #[.int .u32 (x.toNat : Int), .int .u64 (n : Int)] w fun e w' => e = .returned (.int .u32 ((rotr x n).toNat : Int)) ∧ w = w' := by
  have e1 := w_shr x n (by omega)
  have e2 := w_shl x (32 - n) (by omega)
  have e3 := w_or (wshr x n) (wshl x (32 - n))
  go_enter Tryd.func107, Tryd.ntmps107
  (repeat' ((fail_if_success at_builtin); first | go_values | go_skip | go_guarded | go_step | go_upon))
  go_ret
  exact ⟨rfl, rfl⟩

/-- RotateLeft32 by a number below nought: turned right. -/
theorem rotL (x : UInt32) (n : Nat) (hn : 1 ≤ n ∧ n ≤ 31) (w : World) :
    Calls Tryd.prog 120 #[.int .u32 (x.toNat : Int), .int .i64 (-(n : Int))] w fun e w' => e = .returned (.int .u32 ((rotr x n).toNat : Int)) ∧ w = w' := by
  have e1 := w_shr x n (by omega)
  have e2 := w_shl x (32 - n) (by omega)
  have e3 := w_or (wshl x (32 - n)) (wshr x n)
  have e4 := rotr_eq' x n
  have e5 : bits .and .u64 (IntKind.u64.wrap (-(n : Int))) 31 = ((32 - n : Nat) : Int) := by
    have h : ∀ k : Fin 32, 1 ≤ k.val → bits .and .u64 (IntKind.u64.wrap (-(k.val : Int))) 31 = ((32 - k.val : Nat) : Int) := by decide
    exact h ⟨n, by omega⟩ hn.1
  go_enter Tryd.func120, Tryd.ntmps120
  (repeat' ((fail_if_success at_builtin); first | go_values | go_skip | go_guarded | go_step | go_upon))
  go_ret
  refine ⟨?_, rfl⟩
  show Ending.returned (Value.int .u32 (bits .or .u32 ((wshl x (32 - n)).toNat : Int) ((x.toNat : Int) / 2 ^ (32 - (32 - n))))) = _
  rw [show 32 - (32 - n) = n by omega, e1, e3, e4]

end Go.Proofs.YtdpfemhfmofmlaaDoor
