/-
  DERIVED. GIVEN WITH THE SEED: THE CARDS: each row of YthgaghpakioglaaDoorRows.lean that lists a variable, with what it lists TIED to the program's text (the seventh form; the later family's looks); each row that meets fmt, with fmt's text TOLD by the authors' own Lean function (tested against real Go, not proved from fmt's source: count such statements apart). THE CARD IS WHAT COUNTS. Prove the row's statement (the work); the ties are given (YthgaghpakioglaaDoorTie.lean); close each card by the builder's one call (the guide's Derived/Test/ToyasCard.lean, 'card_holds'). Laid BY PROGRAM, IN A SANDBOX (cutbox-door.mjs). By AI agents, Wed Nov 11 2026. No macro, syntax, notation, axiom, sorry.
-/
import Derived.Test.YthgaghpakioglaaDoorRows
import GoSem.ClaimSeven
namespace Go.Proofs.YthgaghpakioglaaDoor
namespace Rows

/-- THE TIED CARD OF 'sealerylaw27.WirePuts'. -/
def wirePutsCard : Claim7 := { stood := { row := wirePutsRow, standIns := [], harness := (true, "0ecbfdb18c7f84995b29abfc0ef715c70d6fba53b83168de20aaecb33f37a844"), looks := false }, kinds := [], alts := [], laidByText := true, laidKinds := [.sentinel], laidTests := true, laidLooks := .later }
def WirePutsCardSaid : Prop := Claim7.holds Tryd.pinned (.plain (OpenSpec.ofChange wirePutsSpec)) wirePutsCard

/-- THE TIED CARD OF 'sealerylaw27.WireBack'. -/
def wireBackCard : Claim7 := { stood := { row := wireBackRow, standIns := [], harness := (true, "0ecbfdb18c7f84995b29abfc0ef715c70d6fba53b83168de20aaecb33f37a844"), looks := false }, kinds := [], alts := [], laidByText := true, laidKinds := [.sentinel], laidTests := true, laidLooks := .later }
def WireBackCardSaid : Prop := Claim7.holds Tryd.pinned (.plain (OpenSpec.ofChange wireBackSpec)) wireBackCard

/-- THE TIED CARD OF 'sealerylaw27.WirePieces'. -/
def wirePiecesCard : Claim7 := { stood := { row := wirePiecesRow, standIns := [], harness := (true, "0ecbfdb18c7f84995b29abfc0ef715c70d6fba53b83168de20aaecb33f37a844"), looks := false }, kinds := [], alts := [], laidByText := true, laidKinds := [.sentinel], laidTests := true, laidLooks := .later }
def WirePiecesCardSaid : Prop := Claim7.holds Tryd.pinned (.plain (OpenSpec.ofChange wirePiecesSpec)) wirePiecesCard

/-- THE TIED CARD OF 'sealerylaw27.WireForm'. -/
def wireFormCard : Claim7 := { stood := { row := wireFormRow, standIns := [], harness := (true, "0ecbfdb18c7f84995b29abfc0ef715c70d6fba53b83168de20aaecb33f37a844"), looks := false }, kinds := [], alts := [], laidByText := true, laidKinds := [.sentinel], laidTests := true, laidLooks := .later }
def WireFormCardSaid : Prop := Claim7.holds Tryd.pinned (.plain (OpenSpec.ofChange wireFormSpec)) wireFormCard

/-- THE TIED CARD OF 'sealerylaw27.WireBroken'. -/
def wireBrokenCard : Claim7 := { stood := { row := wireBrokenRow, standIns := [], harness := (true, "0ecbfdb18c7f84995b29abfc0ef715c70d6fba53b83168de20aaecb33f37a844"), looks := false }, kinds := [], alts := [], laidByText := true, laidKinds := [.sentinel], laidTests := true, laidLooks := .later }
def WireBrokenCardSaid : Prop := Claim7.holds Tryd.pinned (.plain (OpenSpec.ofChange wireBrokenSpec)) wireBrokenCard

/-- THE SECOND FORM's CARD OF 'sealerylaw27.WirePuts'. -/
def wirePutsUptoCard : Claim7 := { stood := { row := wirePutsUptoRow, standIns := [], harness := (true, "0ecbfdb18c7f84995b29abfc0ef715c70d6fba53b83168de20aaecb33f37a844"), looks := false }, kinds := [], alts := [], laidByText := true, laidKinds := [.sentinel], laidTests := true, laidLooks := .later }
def WirePutsUptoCardSaid : Prop := Claim7.holds Tryd.pinned (.plain (OpenSpec.upto wirePutsSpec)) wirePutsUptoCard

/-- THE SECOND FORM's CARD OF 'sealerylaw27.WireBack'. -/
def wireBackUptoCard : Claim7 := { stood := { row := wireBackUptoRow, standIns := [], harness := (true, "0ecbfdb18c7f84995b29abfc0ef715c70d6fba53b83168de20aaecb33f37a844"), looks := false }, kinds := [], alts := [], laidByText := true, laidKinds := [.sentinel], laidTests := true, laidLooks := .later }
def WireBackUptoCardSaid : Prop := Claim7.holds Tryd.pinned (.plain (OpenSpec.upto wireBackSpec)) wireBackUptoCard

/-- THE SECOND FORM's CARD OF 'sealerylaw27.WirePieces'. -/
def wirePiecesUptoCard : Claim7 := { stood := { row := wirePiecesUptoRow, standIns := [], harness := (true, "0ecbfdb18c7f84995b29abfc0ef715c70d6fba53b83168de20aaecb33f37a844"), looks := false }, kinds := [], alts := [], laidByText := true, laidKinds := [.sentinel], laidTests := true, laidLooks := .later }
def WirePiecesUptoCardSaid : Prop := Claim7.holds Tryd.pinned (.plain (OpenSpec.upto wirePiecesSpec)) wirePiecesUptoCard

/-- THE SECOND FORM's CARD OF 'sealerylaw27.WireForm'. -/
def wireFormUptoCard : Claim7 := { stood := { row := wireFormUptoRow, standIns := [], harness := (true, "0ecbfdb18c7f84995b29abfc0ef715c70d6fba53b83168de20aaecb33f37a844"), looks := false }, kinds := [], alts := [], laidByText := true, laidKinds := [.sentinel], laidTests := true, laidLooks := .later }
def WireFormUptoCardSaid : Prop := Claim7.holds Tryd.pinned (.plain (OpenSpec.upto wireFormSpec)) wireFormUptoCard

/-- THE SECOND FORM's CARD OF 'sealerylaw27.WireBroken'. -/
def wireBrokenUptoCard : Claim7 := { stood := { row := wireBrokenUptoRow, standIns := [], harness := (true, "0ecbfdb18c7f84995b29abfc0ef715c70d6fba53b83168de20aaecb33f37a844"), looks := false }, kinds := [], alts := [], laidByText := true, laidKinds := [.sentinel], laidTests := true, laidLooks := .later }
def WireBrokenUptoCardSaid : Prop := Claim7.holds Tryd.pinned (.plain (OpenSpec.upto wireBrokenSpec)) wireBrokenUptoCard
end Rows
end Go.Proofs.YthgaghpakioglaaDoor
