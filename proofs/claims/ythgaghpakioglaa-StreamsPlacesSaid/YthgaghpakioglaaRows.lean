/-
  No cell of these rows narrows 'for every input' (looked for: loops, veiled, ifaces, maps, wideKeys, modest, calm, conditions, laid).
  DERIVED. THE GIVEN ROWS OF THIS SEAT. 6 by the template 'for every input the law returns true; each argument reads behind the call as it read before'; 0 by the template 'total and deterministic' (their statements: YthgaghpakioglaaTotals.lean).
  GIVEN WITH THE SEED: the statements are not yours to turn. If you find one false, say at which input.
  Laid BY PROGRAM, IN A SANDBOX (cutbox-rows.mjs): the forced cells as the released guide's own fill.sh prints them over the translation 8044666ecb781d01… (all of the seat's roots in one cut). By AI agents, Wed Nov 11 2026. No macro, syntax, notation, axiom, sorry.
-/
import Derived.Test.YthgaghpakioglaaChecked
import GoSem.Claim
import GoSem.ClaimJoined
import GoSem.ClaimMapViews
import Derived.JoinedTies
import Derived.KernelRfl
namespace Go.Proofs.Ythgaghpakioglaa
/- THE CELL 'sum', in the pinned program and in every row, IS THE sha256 OF THE DUMP (.gsa) THAT YthgaghpakioglaaProg.lean LOADS. Nothing in Lean hashes anything: it is a label: what it is worth is what the hold of that sum in a sandbox is worth. -/
noncomputable def Try.pinned : Pinned := { name := "ythgaghpakioglaa", sum := "8044666ecb781d01f2bc92e7974087a06d5fd56c127913f382997694e4f7f736", checked := Try.checked }
namespace Rows
def none {H : Type} : Left H := { results := [], args := [] }

/-- 'sealerylaw18.StreamsFull': WHATEVER THE INPUT: true; the input reads as it did. -/
def streamsFullSpec : ChangeSpec := { name := "streamsFull", fn := fun _ => fun
  | [d] => { results := [.lit (.bool true)], args := [d] }
  | _ => none }
def streamsFullRow : OpenClaim := { program := "ythgaghpakioglaa", sum := "8044666ecb781d01f2bc92e7974087a06d5fd56c127913f382997694e4f7f736", func := "sealery/sealerylaw18.StreamsFull", spec := "streamsFull", unfollowed := true, recurses := true, apart := false }
def StreamsFullSaid : Prop := streamsFullRow.holds Try.pinned (OpenSpec.ofChange streamsFullSpec)

/-- ITS FALSE NEIGHBOUR: 'it returns false'. Refute it at one input. -/
def streamsFullWrong : ChangeSpec := { name := "streamsFull", fn := fun _ => fun
  | [d] => { results := [.lit (.bool false)], args := [d] }
  | _ => none }
def StreamsFullWrongFalsely : Prop := streamsFullRow.holds Try.pinned (OpenSpec.ofChange streamsFullWrong)

/-- 'sealerylaw18.StreamsApart': WHATEVER THE INPUT: true; the input reads as it did. -/
def streamsApartSpec : ChangeSpec := { name := "streamsApart", fn := fun _ => fun
  | [d1, d2] => { results := [.lit (.bool true)], args := [d1, d2] }
  | _ => none }
def streamsApartRow : OpenClaim := { program := "ythgaghpakioglaa", sum := "8044666ecb781d01f2bc92e7974087a06d5fd56c127913f382997694e4f7f736", func := "sealery/sealerylaw18.StreamsApart", spec := "streamsApart", unfollowed := true, recurses := true, apart := false }
def StreamsApartSaid : Prop := streamsApartRow.holds Try.pinned (OpenSpec.ofChange streamsApartSpec)

/-- ITS FALSE NEIGHBOUR: 'it returns false'. Refute it at one input. -/
def streamsApartWrong : ChangeSpec := { name := "streamsApart", fn := fun _ => fun
  | [d1, d2] => { results := [.lit (.bool false)], args := [d1, d2] }
  | _ => none }
def StreamsApartWrongFalsely : Prop := streamsApartRow.holds Try.pinned (OpenSpec.ofChange streamsApartWrong)

/-- 'sealerylaw18.StreamsPlays': WHATEVER THE INPUT: true; the input reads as it did. -/
def streamsPlaysSpec : ChangeSpec := { name := "streamsPlays", fn := fun _ => fun
  | [d] => { results := [.lit (.bool true)], args := [d] }
  | _ => none }
def streamsPlaysRow : OpenClaim := { program := "ythgaghpakioglaa", sum := "8044666ecb781d01f2bc92e7974087a06d5fd56c127913f382997694e4f7f736", func := "sealery/sealerylaw18.StreamsPlays", spec := "streamsPlays", unfollowed := true, recurses := true, apart := false }
def StreamsPlaysSaid : Prop := streamsPlaysRow.holds Try.pinned (OpenSpec.ofChange streamsPlaysSpec)

/-- ITS FALSE NEIGHBOUR: 'it returns false'. Refute it at one input. -/
def streamsPlaysWrong : ChangeSpec := { name := "streamsPlays", fn := fun _ => fun
  | [d] => { results := [.lit (.bool false)], args := [d] }
  | _ => none }
def StreamsPlaysWrongFalsely : Prop := streamsPlaysRow.holds Try.pinned (OpenSpec.ofChange streamsPlaysWrong)

/-- 'sealerylaw18.StreamsPlaces': WHATEVER THE INPUT: true; the input reads as it did. -/
def streamsPlacesSpec : ChangeSpec := { name := "streamsPlaces", fn := fun _ => fun
  | [d1, d2, d3] => { results := [.lit (.bool true)], args := [d1, d2, d3] }
  | _ => none }
def streamsPlacesRow : OpenClaim := { program := "ythgaghpakioglaa", sum := "8044666ecb781d01f2bc92e7974087a06d5fd56c127913f382997694e4f7f736", func := "sealery/sealerylaw18.StreamsPlaces", spec := "streamsPlaces", unfollowed := true, recurses := true, apart := false }
def StreamsPlacesSaid : Prop := streamsPlacesRow.holds Try.pinned (OpenSpec.ofChange streamsPlacesSpec)

/-- ITS FALSE NEIGHBOUR: 'it returns false'. Refute it at one input. -/
def streamsPlacesWrong : ChangeSpec := { name := "streamsPlaces", fn := fun _ => fun
  | [d1, d2, d3] => { results := [.lit (.bool false)], args := [d1, d2, d3] }
  | _ => none }
def StreamsPlacesWrongFalsely : Prop := streamsPlacesRow.holds Try.pinned (OpenSpec.ofChange streamsPlacesWrong)

/-- 'sealerylaw18.StreamsKnown': WHATEVER THE INPUT: true; the input reads as it did. -/
def streamsKnownSpec : ChangeSpec := { name := "streamsKnown", fn := fun _ => fun
  | [] => { results := [.lit (.bool true)], args := [] }
  | _ => none }
def streamsKnownRow : OpenClaim := { program := "ythgaghpakioglaa", sum := "8044666ecb781d01f2bc92e7974087a06d5fd56c127913f382997694e4f7f736", func := "sealery/sealerylaw18.StreamsKnown", spec := "streamsKnown", unfollowed := true, recurses := true, apart := false }
def StreamsKnownSaid : Prop := streamsKnownRow.holds Try.pinned (OpenSpec.ofChange streamsKnownSpec)

/-- ITS FALSE NEIGHBOUR: 'it returns false'. Refute it at one input. -/
def streamsKnownWrong : ChangeSpec := { name := "streamsKnown", fn := fun _ => fun
  | [] => { results := [.lit (.bool false)], args := [] }
  | _ => none }
def StreamsKnownWrongFalsely : Prop := streamsKnownRow.holds Try.pinned (OpenSpec.ofChange streamsKnownWrong)

/-- 'sealerylaw29.NetOrder': WHATEVER THE INPUT: true; the input reads as it did. -/
def netOrderSpec : ChangeSpec := { name := "netOrder", fn := fun _ => fun
  | [d1, d2] => { results := [.lit (.bool true)], args := [d1, d2] }
  | _ => none }
def netOrderRow : OpenClaim := { program := "ythgaghpakioglaa", sum := "8044666ecb781d01f2bc92e7974087a06d5fd56c127913f382997694e4f7f736", func := "sealery/sealerylaw29.NetOrder", spec := "netOrder", unfollowed := true, recurses := true, apart := false }
def NetOrderSaid : Prop := netOrderRow.holds Try.pinned (OpenSpec.ofChange netOrderSpec)

/-- ITS FALSE NEIGHBOUR: 'it returns false'. Refute it at one input. -/
def netOrderWrong : ChangeSpec := { name := "netOrder", fn := fun _ => fun
  | [d1, d2] => { results := [.lit (.bool false)], args := [d1, d2] }
  | _ => none }
def NetOrderWrongFalsely : Prop := netOrderRow.holds Try.pinned (OpenSpec.ofChange netOrderWrong)

/- THE SECOND FORM. 'bulk': how many values and letters a reading holds, each counted each time it is reached (what is shared counts as often as it is met; a slice's spare places count too). A statement '..UptoSaid' is the law's where the arguments, and the package variables that the reading takes, are together of bulk at most 1048576: NARROWER than '..Said'. Prove '..Said' where nothing that the law and all that it calls make is longer than what came in: it says more and counts as full. Else prove '..UptoSaid'. A law counts once. -/
mutual
def uptoBulk {H : Type} : DataW H → Nat
  | .lit (.string bytes) => bytes.length + 1
  | .lit _ => 1
  | .nil => 1
  | .ptr d => uptoBulk d + 1
  | .slice elems spare => uptoBulkAll elems + uptoBulkAll spare + 1
  | .agg parts => uptoBulkAll parts + 1
  | .iface _ d => uptoBulk d + 1
  | .map entries => uptoBulkEntries entries + 1
  | .held _ => 1
def uptoBulkAll {H : Type} : List (DataW H) → Nat
  | [] => 0
  | d :: r => uptoBulk d + uptoBulkAll r
def uptoBulkEntries {H : Type} : List (Lit × DataW H) → Nat
  | [] => 0
  | x :: r => uptoBulkEntry x + uptoBulkEntries r
def uptoBulkEntry {H : Type} : Lit × DataW H → Nat
  | (.string bytes, d) => bytes.length + uptoBulk d + 1
  | (_, d) => uptoBulk d + 1
 end
def uptoSmall : (H : Type) → List (DataW H) → Bool := fun _ ds => decide (uptoBulkAll ds ≤ 1048576)
def OpenSpec.upto (s : _root_.Go.ChangeSpec) : _root_.Go.OpenSpec := { _root_.Go.OpenSpec.ofChange s with cond := some uptoSmall }

/-- 'sealerylaw18.StreamsFull', WHERE WHAT IT READS IS OF BULK AT MOST 1048576: true; the input reads as it did. -/
def streamsFullUptoRow : OpenClaim := { program := "ythgaghpakioglaa", sum := "8044666ecb781d01f2bc92e7974087a06d5fd56c127913f382997694e4f7f736", func := "sealery/sealerylaw18.StreamsFull", spec := "streamsFull", unfollowed := true, recurses := true, apart := false, narrowed := true }
def StreamsFullUptoSaid : Prop := streamsFullUptoRow.holds Try.pinned (OpenSpec.upto streamsFullSpec)

/-- 'sealerylaw18.StreamsApart', WHERE WHAT IT READS IS OF BULK AT MOST 1048576: true; the input reads as it did. -/
def streamsApartUptoRow : OpenClaim := { program := "ythgaghpakioglaa", sum := "8044666ecb781d01f2bc92e7974087a06d5fd56c127913f382997694e4f7f736", func := "sealery/sealerylaw18.StreamsApart", spec := "streamsApart", unfollowed := true, recurses := true, apart := false, narrowed := true }
def StreamsApartUptoSaid : Prop := streamsApartUptoRow.holds Try.pinned (OpenSpec.upto streamsApartSpec)

/-- 'sealerylaw18.StreamsPlays', WHERE WHAT IT READS IS OF BULK AT MOST 1048576: true; the input reads as it did. -/
def streamsPlaysUptoRow : OpenClaim := { program := "ythgaghpakioglaa", sum := "8044666ecb781d01f2bc92e7974087a06d5fd56c127913f382997694e4f7f736", func := "sealery/sealerylaw18.StreamsPlays", spec := "streamsPlays", unfollowed := true, recurses := true, apart := false, narrowed := true }
def StreamsPlaysUptoSaid : Prop := streamsPlaysUptoRow.holds Try.pinned (OpenSpec.upto streamsPlaysSpec)

/-- 'sealerylaw18.StreamsPlaces', WHERE WHAT IT READS IS OF BULK AT MOST 1048576: true; the input reads as it did. -/
def streamsPlacesUptoRow : OpenClaim := { program := "ythgaghpakioglaa", sum := "8044666ecb781d01f2bc92e7974087a06d5fd56c127913f382997694e4f7f736", func := "sealery/sealerylaw18.StreamsPlaces", spec := "streamsPlaces", unfollowed := true, recurses := true, apart := false, narrowed := true }
def StreamsPlacesUptoSaid : Prop := streamsPlacesUptoRow.holds Try.pinned (OpenSpec.upto streamsPlacesSpec)

/-- 'sealerylaw18.StreamsKnown', WHERE WHAT IT READS IS OF BULK AT MOST 1048576: true; the input reads as it did. -/
def streamsKnownUptoRow : OpenClaim := { program := "ythgaghpakioglaa", sum := "8044666ecb781d01f2bc92e7974087a06d5fd56c127913f382997694e4f7f736", func := "sealery/sealerylaw18.StreamsKnown", spec := "streamsKnown", unfollowed := true, recurses := true, apart := false, narrowed := true }
def StreamsKnownUptoSaid : Prop := streamsKnownUptoRow.holds Try.pinned (OpenSpec.upto streamsKnownSpec)

/-- 'sealerylaw29.NetOrder', WHERE WHAT IT READS IS OF BULK AT MOST 1048576: true; the input reads as it did. -/
def netOrderUptoRow : OpenClaim := { program := "ythgaghpakioglaa", sum := "8044666ecb781d01f2bc92e7974087a06d5fd56c127913f382997694e4f7f736", func := "sealery/sealerylaw29.NetOrder", spec := "netOrder", unfollowed := true, recurses := true, apart := false, narrowed := true }
def NetOrderUptoSaid : Prop := netOrderUptoRow.holds Try.pinned (OpenSpec.upto netOrderSpec)

end Rows
end Go.Proofs.Ythgaghpakioglaa
