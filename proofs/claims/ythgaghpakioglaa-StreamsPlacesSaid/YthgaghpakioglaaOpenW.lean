/- How a struct that came in is opened, the reach of each field's datum handed on. -/
import Derived.Test.YthgaghpakioglaaPieces
namespace Go.Proofs.Ythgaghpakioglaa
open Go.RowKit
set_option linter.unusedSimpArgs false
set_option maxRecDepth 10000
section
variable {H : Type} {enc : TypeId × Value → H} {P : Program} {w : World} {fuel : Nat} {cs : List Value} {y : DataW H × List MemPlace}
theorem ox_structW {t : TypeId} {fs : Array Field} (ht : P.underlying t = some (.struct fs)) (h : Reads enc P w fuel t cs y) (hy : ∀ m ∈ y.1.weights P t, m ≤ reachBytes) :
    cs.length = P.cellsOf t ∧ ∃ n, ∀ (i : Nat) (f : Field), fs[i]? = some f → ∃ y', Reads enc P w n f.type ((cs.drop f.offset).take (P.cellsOf f.type)) y' ∧ ∀ m ∈ y'.1.weights P f.type, m ≤ reachBytes := by
  obtain ⟨xs, n, _, hx, hl, hxl, hf⟩ := DataW.trod_struct ht h
  refine ⟨hl, n, fun i f hi => ?_⟩
  have h1 := hf i f hi
  have hi' : i < xs.length := by rw [hxl]; exact (Array.getElem?_eq_some_iff.1 hi).1
  refine ⟨xs[i], by unfold Reads; rw [h1, List.getElem?_eq_getElem hi'], fun m hm => hy m ?_⟩
  subst hx
  simp only [DataW.weights, ht]
  exact DataW.weights_mem_each (j := i) (t := f.type) (d := xs[i].1) (by rw [List.getElem?_map, Array.getElem?_toList, hi]; rfl) (by rw [List.getElem?_map, List.getElem?_eq_getElem hi']; rfl) m hm
end
end Go.Proofs.Ythgaghpakioglaa
