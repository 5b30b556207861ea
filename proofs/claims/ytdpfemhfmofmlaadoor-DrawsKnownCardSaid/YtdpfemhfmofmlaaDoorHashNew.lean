/- What package sha computes: a hash is made. -/
import Derived.Test.YtdpfemhfmofmlaaDoorHash
namespace Go.Proofs.YtdpfemhfmofmlaaDoor
set_option linter.unusedSimpArgs false
open Go.RowKit
set_option maxRecDepth 10000

theorem buildHash (w : World) : (Instr.build 107 #[(0, .agg (wvs wH).toArray)]).run Tryd.prog w = .ok (.agg (hcells wH (List.replicate 64 0) 0 0).toArray) w := by kernel_rfl

set_option maxHeartbeats 400000 in
theorem hNew (w : World) (hT : Tabs w) :
    Calls Tryd.prog 27 #[] w fun e w' => e = .returned (.pointer (some ⟨w.heap.size, 0, none⟩)) ∧ HashAt w' w.heap.size [] 0 ∧ Below w.heap.size w w' ∧ w'.heap.size = w.heap.size + 1 := by
  have HB := Lib.hid hT.begins
  have hi : (Tryd.prog.info? 103).map (·.size) = some (wvs wH).length := size8
  have HI := Lib.hid hi; clear hi
  obtain ⟨cs, hcs⟩ : ∃ cs, hcells wH (List.replicate 64 0) 0 0 = cs := ⟨_, rfl⟩
  have hb := buildHash w
  rw [hcs] at hb
  obtain ⟨st, hst⟩ : ∃ st, wvs wH = st := ⟨_, rfl⟩
  rw [hst] at HB HI hb
  have HBU := Lib.hid hb; clear hb
  have HCS := Lib.hid hcs; clear hcs
  have HST := Lib.hid hst; clear hst
  clear hT
  go_enter Tryd.func27, Tryd.ntmps27
  (repeat' ((fail_if_success at_builtin); first | (first | (with_reducible refine wpList_load_mid rfl 103 _ rfl 0 0 rfl st _ HB.out Tryd.underlying103 rfl HI.out ?_) | (with_reducible refine wpList_build1 rfl 107 0 _ rfl (.agg st.toArray) (.agg cs.toArray) rfl HBU.out ?_)) | go_values | go_skip | go_guarded | go_step | go_upon))
  go_ret
  refine ⟨rfl, ⟨List.replicate 64 0, hrest_nil _ (by simp), ?_⟩, (Below.refl _ _).alloc (Nat.le_refl _) _, by simp⟩
  rw [heap_alloc_new w _, ← HCS.out]
  rfl

end Go.Proofs.YtdpfemhfmofmlaaDoor
