/- What bytes.Clone answers. -/
import Derived.Test.YthgaghpakioglaaKit
namespace Go.Proofs.Ythgaghpakioglaa
open Go.RowKit
set_option maxRecDepth 10000

set_option maxHeartbeats 400000 in
theorem bytesClone (a : Option Addr) (n c : Nat) (l : List UInt8) (w : World) (ha : RdB w a l) (e1 : l.length = n) (hn : n ≤ 140737488351232) :
    Calls Try.prog 62 #[.slice a n c] w (GotB w n l) := by
  obtain ⟨i0, hi, hz0, hz1, hz2⟩ := info_parts u8Info
  subst e1
  cases a with
  | none =>
    obtain rfl : l = [] := by
      rcases Nat.eq_zero_or_pos l.length with h | h
      · exact List.eq_nil_of_length_eq_zero h
      · obtain ⟨_, _, e, _⟩ := ha.lt (by simpa [bvs] using h); cases e
    have hq := fun w => Lib.run_eql_slice_nil (P := Try.prog) w 51 5 none 0 c 0 0 Try.underlying51
    go_enter Try.func62, Try.ntmps62
    (repeat' ((fail_if_success at_builtin); first | go_values | go_skip | go_guarded | go_step | go_upon))
    go_ret
    exact gotB (Below.refl _ _) (World.ownsRow_nil _ _ _ _)
  | some ad =>
    have hq := fun w => Lib.run_eql_slice_nil (P := Try.prog) w 51 5 (some ad) l.length c 0 0 Try.underlying51
    go_enter Try.func62, Try.ntmps62
    (repeat' ((fail_if_success at_builtin); first | go_values | go_skip | go_guarded | go_step | go_upon))
    refine wpList_app _ rfl _ _ _ _ rfl w.heap.size 5 i0 _ 1 1 Try.underlying51 hi hz0 hz1 hz2 rfl _ _ _ rfl (World.ownsRow_lit (base := w.heap.size) (size := 1) w #[] 0 (Nat.le_refl _) (by decide) rfl) _ rfl l.length (bvs l) (src_of_rdc Try.underlying51 (ha.alloc _) (by simp [bvs]) (bvs_oneCell l)) (by unfold maxLen; omega) (by omega) (by simp) ?_
    intro v1 w1 hO1 hg1
    have hB1 : Below w.heap.size w w1 := ((Below.refl _ _).alloc (Nat.le_refl _) _).grown hg1 (by simp) (fun g e => by cases e; exact Nat.le_refl _)
    simp only [Nat.zero_add] at hO1
    (repeat' ((fail_if_success at_builtin); first | go_values | go_skip | go_guarded | go_step | go_upon))
    go_ret
    exact gotB hB1 hO1

end Go.Proofs.Ythgaghpakioglaa
