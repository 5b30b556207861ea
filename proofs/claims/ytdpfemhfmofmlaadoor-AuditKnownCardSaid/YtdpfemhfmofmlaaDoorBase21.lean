/- A few words that the audit's texts use: digests asked for by name, rows of bytes. -/
import Derived.Test.YtdpfemhfmofmlaaDoorShaSum
import Derived.Test.YtdpfemhfmofmlaaDoorRefSum
import Derived.Test.YtdpfemhfmofmlaaDoorOpen
import Derived.SizedLaws
import Derived.IntWalk
import Derived.Stop.BytesEq
namespace Go.Proofs.YtdpfemhfmofmlaaDoor
open Go.RowKit

theorem rd_row {w : World} {g : Nat} {l : List UInt8} {t : TypeId} {fr : Nat × Nat} (h : w.heap[g]? = some (.cells (bvs l).toArray t fr)) : RdB w (some ⟨g, 0, none⟩) l :=
  ⟨fun i hi => ⟨_, _, rfl, by rw [Nat.zero_add, cell_of_row w g i _ _ _ h]; simp⟩⟩
theorem hSumOf (g : Nat) (m D : List UInt8) (w : World) (hD : wdig m = D) (hT : Tabs w) (h : HashAt w g m m.length) (hb : m.length ≤ 500000000) :
    Calls Tryd.prog 30 #[.pointer (some ⟨g, 0, none⟩)] w fun e w' => e = .returned (.agg (bvs D).toArray) ∧ Below w.heap.size w w' := by
  subst hD; exact hSum g m w hT h hb
theorem shaSumOf (a : Option Addr) (n c : Nat) (l D : List UInt8) (w : World) (hD : wdig l = D) (hT : Tabs w) (hr : RdB w a l) (en : l.length = n) (hc : n ≤ c) (hn : n ≤ 400000000) :
    Calls Tryd.prog 24 #[.slice a n c] w fun e w' => e = .returned (.agg (bvs D).toArray) ∧ Below w.heap.size w w' := by
  subst hD; exact shaSum a n c l w hT hr en hc hn
theorem refSumOf (a : Option Addr) (n c : Nat) (l D : List UInt8) (w : World) (hD : wdig l = D) (h : RdB w a l) (en : l.length = n) (hn : n ≤ 400000000) :
    Calls Tryd.prog 25 #[.slice a n c] w fun e w' => e = .returned (.agg (bvs D).toArray) ∧ Below w.heap.size w w' := by
  subst hD; exact refSum a n c l w h en hn
theorem eqSumSame (D : List UInt8) (hD : D.length = 32) (w : World) : (binOp .eql 26 (.agg (bvs D).toArray) (.agg (bvs D).toArray)).run Tryd.prog w = .ok (.bool true) w := by
  rw [run_eql_struct, show bvs D = D.map Extern.Stop.cell from rfl, run_equalIn_bytes w 9998 26 5 32 Tryd.underlying26 Tryd.underlying5 (fun w => by kernel_rfl) D D hD hD]
  simp
theorem dec15Yes {P : Prop} [Decidable P] (h : P) : Value.bool true = .bool (decide P) := by rw [decide_eq_true h]
theorem dec15No {P : Prop} [Decidable P] (h : ¬ P) : Value.bool false = .bool (decide P) := by rw [decide_eq_false h]

end Go.Proofs.YtdpfemhfmofmlaaDoor
