/- What the row lists of the tables is what the walks ask. -/
import Derived.Test.YtdpfemhfmofmlaaDoorTake
import Derived.Test.YtdpfemhfmofmlaaDoorRows
import Derived.Lib.LaidTab
namespace Go.Proofs.YtdpfemhfmofmlaaDoor
open Go.RowKit Go.Lib

theorem lemax {c : Nat} (h : c ≤ maxLen) : c ≤ 9223372036854775807 := by unfold maxLen at h; omega

theorem beginsData : (Rows.laid_sealery_sha_begins : DataW Unit) = tabData .u32 (wH.map fun x => (x.toNat : Int)) := by kernel_rfl
theorem kData : (Rows.laid_sealery_sha_k : DataW Unit) = tabData .u32 (wK.map fun x => (x.toNat : Int)) := by kernel_rfl

theorem tabs_of {W : World} (hL : laidMet Tryd.prog [("sealery/sha.begins", Rows.laid_sealery_sha_begins), ("sealery/sha.k", Rows.laid_sealery_sha_k)] W) : Tabs W := by
  obtain ⟨ps, ⟨g, t, cs, fuel, p, q, hg, ht, hvar, hd, ⟨g', t', cs', fuel', p', q', hg', ht', hvar', hd', _⟩, _⟩, _⟩ := hL
  obtain rfl := Option.some.inj ((show Tryd.prog.globalNamed "sealery/sha.begins" = some 0 by kernel_rfl).symm.trans hg)
  obtain rfl := Option.some.inj ((show Tryd.prog.globalNamed "sealery/sha.k" = some 1 by kernel_rfl).symm.trans hg')
  obtain rfl := Option.some.inj ((show (Tryd.prog.globals[0]?).map (·.type) = some 103 by kernel_rfl).symm.trans ht)
  obtain rfl := Option.some.inj ((show (Tryd.prog.globals[1]?).map (·.type) = some 143 by kernel_rfl).symm.trans ht')
  rw [beginsData] at hd
  rw [kData] at hd'
  have e1 := cells_of_tab Tryd.underlying103 Tryd.underlying41 (by kernel_rfl) (by kernel_rfl) hd
  have e2 := cells_of_tab Tryd.underlying143 Tryd.underlying41 (by kernel_rfl) (by kernel_rfl) hd'
  have hk : ∀ t (_ : t < 64), W.cell? ⟨1, t, none⟩ = some (.int .u32 ((wK[t]?.getD 0).toNat : Int)) := by
    intro t ht
    have := World.var?_cell hg' hvar' t
    rw [this, ← Array.getElem?_toList, e2, List.map_map, List.getElem?_map, List.getElem?_eq_getElem (show t < wK.length from ht)]
    rfl
  refine ⟨fun j v hj => ?_, hk, World.block_lt_of_cell? W ⟨1, 0, none⟩ (hk 0 (by omega))⟩
  · have := World.var?_cell hg hvar j
    rw [Nat.zero_add, this, ← Array.getElem?_toList, e1, List.map_map]
    exact hj

end Go.Proofs.YtdpfemhfmofmlaaDoor
