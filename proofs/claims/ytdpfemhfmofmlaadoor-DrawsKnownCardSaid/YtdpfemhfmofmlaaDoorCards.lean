/-
  DERIVED. GIVEN WITH THE SEED: THE CARDS: each row of YtdpfemhfmofmlaaDoorRows.lean that lists a variable, with what it lists TIED to the program's text (the seventh form; the later family's looks); each row that meets fmt, with fmt's text TOLD by the authors' own Lean function (tested against real Go, not proved from fmt's source: count such statements apart). THE CARD IS WHAT COUNTS. Prove the row's statement (the work); the ties are given (YtdpfemhfmofmlaaDoorTie.lean); close each card by the builder's one call (the guide's Derived/Test/ToyasCard.lean, 'card_holds'). Laid BY PROGRAM, IN A SANDBOX (cutbox-door.mjs). By AI agents, Wed Nov 11 2026. No macro, syntax, notation, axiom, sorry.
-/
import Derived.Test.YtdpfemhfmofmlaaDoorRows
import GoSem.ClaimSeven
namespace Go.Proofs.YtdpfemhfmofmlaaDoor
namespace Rows

/-- THE TIED CARD OF 'sealerylaw01.ShaSums'. -/
def shaSumsCard : Claim7 := { stood := { row := shaSumsRow, standIns := [], harness := (true, "bc45823d58618eea84ec8b9b084dcb4d96553b586db43788e4deb62ca914d4c8"), looks := false }, kinds := [], alts := [], laidByText := true, laidKinds := [.data, .data], laidTests := true, laidLooks := .later }
def ShaSumsCardSaid : Prop := Claim7.holds Tryd.pinned (.plain (OpenSpec.ofChange shaSumsSpec)) shaSumsCard

/-- THE TIED CARD OF 'sealerylaw01.ShaPieces'. -/
def shaPiecesCard : Claim7 := { stood := { row := shaPiecesRow, standIns := [], harness := (true, "bc45823d58618eea84ec8b9b084dcb4d96553b586db43788e4deb62ca914d4c8"), looks := false }, kinds := [], alts := [], laidByText := true, laidKinds := [.data, .data], laidTests := true, laidLooks := .later }
def ShaPiecesCardSaid : Prop := Claim7.holds Tryd.pinned (.plain (OpenSpec.ofChange shaPiecesSpec)) shaPiecesCard

/-- THE TIED CARD OF 'sealerylaw01.ShaWhole'. -/
def shaWholeCard : Claim7 := { stood := { row := shaWholeRow, standIns := [], harness := (true, "bc45823d58618eea84ec8b9b084dcb4d96553b586db43788e4deb62ca914d4c8"), looks := false }, kinds := [], alts := [], laidByText := true, laidKinds := [.data, .data], laidTests := true, laidLooks := .later }
def ShaWholeCardSaid : Prop := Claim7.holds Tryd.pinned (.plain (OpenSpec.ofChange shaWholeSpec)) shaWholeCard

/-- THE TIED CARD OF 'sealerylaw01.ShaAsked'. -/
def shaAskedCard : Claim7 := { stood := { row := shaAskedRow, standIns := [], harness := (true, "bc45823d58618eea84ec8b9b084dcb4d96553b586db43788e4deb62ca914d4c8"), looks := false }, kinds := [], alts := [], laidByText := true, laidKinds := [.data, .data], laidTests := true, laidLooks := .later }
def ShaAskedCardSaid : Prop := Claim7.holds Tryd.pinned (.plain (OpenSpec.ofChange shaAskedSpec)) shaAskedCard

/-- THE TIED CARD OF 'sealerylaw01.ShaKnown'. -/
def shaKnownCard : Claim7 := { stood := { row := shaKnownRow, standIns := [], harness := (true, "bc45823d58618eea84ec8b9b084dcb4d96553b586db43788e4deb62ca914d4c8"), looks := false }, kinds := [], alts := [], laidByText := true, laidKinds := [.data, .data], laidTests := true, laidLooks := .later }
def ShaKnownCardSaid : Prop := Claim7.holds Tryd.pinned (.plain (OpenSpec.ofChange shaKnownSpec)) shaKnownCard

/-- THE TIED CARD OF 'sealerylaw02.MacSame'. -/
def macSameCard : Claim7 := { stood := { row := macSameRow, standIns := [], harness := (true, "bc45823d58618eea84ec8b9b084dcb4d96553b586db43788e4deb62ca914d4c8"), looks := false }, kinds := [], alts := [], laidByText := true, laidKinds := [.data, .data], laidTests := true, laidLooks := .later }
def MacSameCardSaid : Prop := Claim7.holds Tryd.pinned (.plain (OpenSpec.ofChange macSameSpec)) macSameCard

/-- THE TIED CARD OF 'sealerylaw02.MacKnown'. -/
def macKnownCard : Claim7 := { stood := { row := macKnownRow, standIns := [], harness := (true, "bc45823d58618eea84ec8b9b084dcb4d96553b586db43788e4deb62ca914d4c8"), looks := false }, kinds := [], alts := [], laidByText := true, laidKinds := [.data, .data], laidTests := true, laidLooks := .later }
def MacKnownCardSaid : Prop := Claim7.holds Tryd.pinned (.plain (OpenSpec.ofChange macKnownSpec)) macKnownCard

/-- THE TIED CARD OF 'sealerylaw02.MacCodes'. -/
def macCodesCard : Claim7 := { stood := { row := macCodesRow, standIns := [], harness := (true, "bc45823d58618eea84ec8b9b084dcb4d96553b586db43788e4deb62ca914d4c8"), looks := false }, kinds := [], alts := [], laidByText := true, laidKinds := [.data, .data], laidTests := true, laidLooks := .later }
def MacCodesCardSaid : Prop := Claim7.holds Tryd.pinned (.plain (OpenSpec.ofChange macCodesSpec)) macCodesCard

/-- THE TIED CARD OF 'sealerylaw02.MacKeys'. -/
def macKeysCard : Claim7 := { stood := { row := macKeysRow, standIns := [], harness := (true, "bc45823d58618eea84ec8b9b084dcb4d96553b586db43788e4deb62ca914d4c8"), looks := false }, kinds := [], alts := [], laidByText := true, laidKinds := [.data, .data], laidTests := true, laidLooks := .later }
def MacKeysCardSaid : Prop := Claim7.holds Tryd.pinned (.plain (OpenSpec.ofChange macKeysSpec)) macKeysCard

/-- THE TIED CARD OF 'sealerylaw15.DrawsKeys'. -/
def drawsKeysCard : Claim7 := { stood := { row := drawsKeysRow, standIns := [], harness := (true, "bc45823d58618eea84ec8b9b084dcb4d96553b586db43788e4deb62ca914d4c8"), looks := false }, kinds := [], alts := [], laidByText := true, laidKinds := [.data, .data], laidTests := true, laidLooks := .later }
def DrawsKeysCardSaid : Prop := Claim7.holds Tryd.pinned (.plain (OpenSpec.ofChange drawsKeysSpec)) drawsKeysCard

/-- THE TIED CARD OF 'sealerylaw15.DrawsSeam'. -/
def drawsSeamCard : Claim7 := { stood := { row := drawsSeamRow, standIns := [], harness := (true, "bc45823d58618eea84ec8b9b084dcb4d96553b586db43788e4deb62ca914d4c8"), looks := false }, kinds := [], alts := [], laidByText := true, laidKinds := [.data, .data], laidTests := true, laidLooks := .later }
def DrawsSeamCardSaid : Prop := Claim7.holds Tryd.pinned (.plain (OpenSpec.ofChange drawsSeamSpec)) drawsSeamCard

/-- THE TIED CARD OF 'sealerylaw15.DrawsKnown'. -/
def drawsKnownCard : Claim7 := { stood := { row := drawsKnownRow, standIns := [], harness := (true, "bc45823d58618eea84ec8b9b084dcb4d96553b586db43788e4deb62ca914d4c8"), looks := false }, kinds := [], alts := [], laidByText := true, laidKinds := [.data, .data], laidTests := true, laidLooks := .later }
def DrawsKnownCardSaid : Prop := Claim7.holds Tryd.pinned (.plain (OpenSpec.ofChange drawsKnownSpec)) drawsKnownCard

/-- THE TIED CARD OF 'sealerylaw21.AuditVerifies'. -/
def auditVerifiesCard : Claim7 := { stood := { row := auditVerifiesRow, standIns := [], harness := (true, "bc45823d58618eea84ec8b9b084dcb4d96553b586db43788e4deb62ca914d4c8"), looks := false }, kinds := [], alts := [], laidByText := true, laidKinds := [.data, .data], laidTests := true, laidLooks := .later }
def AuditVerifiesCardSaid : Prop := Claim7.holds Tryd.pinned (.plain (OpenSpec.ofChange auditVerifiesSpec)) auditVerifiesCard

/-- THE TIED CARD OF 'sealerylaw21.AuditRuns'. -/
def auditRunsCard : Claim7 := { stood := { row := auditRunsRow, standIns := [], harness := (true, "bc45823d58618eea84ec8b9b084dcb4d96553b586db43788e4deb62ca914d4c8"), looks := false }, kinds := [], alts := [], laidByText := true, laidKinds := [.data, .data], laidTests := true, laidLooks := .later }
def AuditRunsCardSaid : Prop := Claim7.holds Tryd.pinned (.plain (OpenSpec.ofChange auditRunsSpec)) auditRunsCard

/-- THE TIED CARD OF 'sealerylaw21.AuditHolds'. -/
def auditHoldsCard : Claim7 := { stood := { row := auditHoldsRow, standIns := [], harness := (true, "bc45823d58618eea84ec8b9b084dcb4d96553b586db43788e4deb62ca914d4c8"), looks := false }, kinds := [], alts := [], laidByText := true, laidKinds := [.data, .data], laidTests := true, laidLooks := .later }
def AuditHoldsCardSaid : Prop := Claim7.holds Tryd.pinned (.plain (OpenSpec.ofChange auditHoldsSpec)) auditHoldsCard

/-- THE TIED CARD OF 'sealerylaw21.AuditApart'. -/
def auditApartCard : Claim7 := { stood := { row := auditApartRow, standIns := [], harness := (true, "bc45823d58618eea84ec8b9b084dcb4d96553b586db43788e4deb62ca914d4c8"), looks := false }, kinds := [], alts := [], laidByText := true, laidKinds := [.data, .data], laidTests := true, laidLooks := .later }
def AuditApartCardSaid : Prop := Claim7.holds Tryd.pinned (.plain (OpenSpec.ofChange auditApartSpec)) auditApartCard

/-- THE TIED CARD OF 'sealerylaw21.AuditBound'. -/
def auditBoundCard : Claim7 := { stood := { row := auditBoundRow, standIns := [], harness := (true, "bc45823d58618eea84ec8b9b084dcb4d96553b586db43788e4deb62ca914d4c8"), looks := false }, kinds := [], alts := [], laidByText := true, laidKinds := [.data, .data], laidTests := true, laidLooks := .later }
def AuditBoundCardSaid : Prop := Claim7.holds Tryd.pinned (.plain (OpenSpec.ofChange auditBoundSpec)) auditBoundCard

/-- THE TIED CARD OF 'sealerylaw21.AuditRowsTold'. -/
def auditRowsToldCard : Claim7 := { stood := { row := auditRowsToldRow, standIns := [], harness := (true, "bc45823d58618eea84ec8b9b084dcb4d96553b586db43788e4deb62ca914d4c8"), looks := false }, kinds := [], alts := [], laidByText := true, laidKinds := [.data, .data], laidTests := true, laidLooks := .later }
def AuditRowsToldCardSaid : Prop := Claim7.holds Tryd.pinned (.plain (OpenSpec.ofChange auditRowsToldSpec)) auditRowsToldCard

/-- THE TIED CARD OF 'sealerylaw21.AuditKnown'. -/
def auditKnownCard : Claim7 := { stood := { row := auditKnownRow, standIns := [], harness := (true, "bc45823d58618eea84ec8b9b084dcb4d96553b586db43788e4deb62ca914d4c8"), looks := false }, kinds := [], alts := [], laidByText := true, laidKinds := [.data, .data], laidTests := true, laidLooks := .later }
def AuditKnownCardSaid : Prop := Claim7.holds Tryd.pinned (.plain (OpenSpec.ofChange auditKnownSpec)) auditKnownCard

/-- THE SECOND FORM's CARD OF 'sealerylaw01.ShaSums'. -/
def shaSumsUptoCard : Claim7 := { stood := { row := shaSumsUptoRow, standIns := [], harness := (true, "bc45823d58618eea84ec8b9b084dcb4d96553b586db43788e4deb62ca914d4c8"), looks := false }, kinds := [], alts := [], laidByText := true, laidKinds := [.data, .data], laidTests := true, laidLooks := .later }
def ShaSumsUptoCardSaid : Prop := Claim7.holds Tryd.pinned (.plain (OpenSpec.upto shaSumsSpec)) shaSumsUptoCard

/-- THE SECOND FORM's CARD OF 'sealerylaw01.ShaPieces'. -/
def shaPiecesUptoCard : Claim7 := { stood := { row := shaPiecesUptoRow, standIns := [], harness := (true, "bc45823d58618eea84ec8b9b084dcb4d96553b586db43788e4deb62ca914d4c8"), looks := false }, kinds := [], alts := [], laidByText := true, laidKinds := [.data, .data], laidTests := true, laidLooks := .later }
def ShaPiecesUptoCardSaid : Prop := Claim7.holds Tryd.pinned (.plain (OpenSpec.upto shaPiecesSpec)) shaPiecesUptoCard

/-- THE SECOND FORM's CARD OF 'sealerylaw01.ShaWhole'. -/
def shaWholeUptoCard : Claim7 := { stood := { row := shaWholeUptoRow, standIns := [], harness := (true, "bc45823d58618eea84ec8b9b084dcb4d96553b586db43788e4deb62ca914d4c8"), looks := false }, kinds := [], alts := [], laidByText := true, laidKinds := [.data, .data], laidTests := true, laidLooks := .later }
def ShaWholeUptoCardSaid : Prop := Claim7.holds Tryd.pinned (.plain (OpenSpec.upto shaWholeSpec)) shaWholeUptoCard

/-- THE SECOND FORM's CARD OF 'sealerylaw01.ShaAsked'. -/
def shaAskedUptoCard : Claim7 := { stood := { row := shaAskedUptoRow, standIns := [], harness := (true, "bc45823d58618eea84ec8b9b084dcb4d96553b586db43788e4deb62ca914d4c8"), looks := false }, kinds := [], alts := [], laidByText := true, laidKinds := [.data, .data], laidTests := true, laidLooks := .later }
def ShaAskedUptoCardSaid : Prop := Claim7.holds Tryd.pinned (.plain (OpenSpec.upto shaAskedSpec)) shaAskedUptoCard

/-- THE SECOND FORM's CARD OF 'sealerylaw01.ShaKnown'. -/
def shaKnownUptoCard : Claim7 := { stood := { row := shaKnownUptoRow, standIns := [], harness := (true, "bc45823d58618eea84ec8b9b084dcb4d96553b586db43788e4deb62ca914d4c8"), looks := false }, kinds := [], alts := [], laidByText := true, laidKinds := [.data, .data], laidTests := true, laidLooks := .later }
def ShaKnownUptoCardSaid : Prop := Claim7.holds Tryd.pinned (.plain (OpenSpec.upto shaKnownSpec)) shaKnownUptoCard

/-- THE SECOND FORM's CARD OF 'sealerylaw02.MacSame'. -/
def macSameUptoCard : Claim7 := { stood := { row := macSameUptoRow, standIns := [], harness := (true, "bc45823d58618eea84ec8b9b084dcb4d96553b586db43788e4deb62ca914d4c8"), looks := false }, kinds := [], alts := [], laidByText := true, laidKinds := [.data, .data], laidTests := true, laidLooks := .later }
def MacSameUptoCardSaid : Prop := Claim7.holds Tryd.pinned (.plain (OpenSpec.upto macSameSpec)) macSameUptoCard

/-- THE SECOND FORM's CARD OF 'sealerylaw02.MacKnown'. -/
def macKnownUptoCard : Claim7 := { stood := { row := macKnownUptoRow, standIns := [], harness := (true, "bc45823d58618eea84ec8b9b084dcb4d96553b586db43788e4deb62ca914d4c8"), looks := false }, kinds := [], alts := [], laidByText := true, laidKinds := [.data, .data], laidTests := true, laidLooks := .later }
def MacKnownUptoCardSaid : Prop := Claim7.holds Tryd.pinned (.plain (OpenSpec.upto macKnownSpec)) macKnownUptoCard

/-- THE SECOND FORM's CARD OF 'sealerylaw02.MacCodes'. -/
def macCodesUptoCard : Claim7 := { stood := { row := macCodesUptoRow, standIns := [], harness := (true, "bc45823d58618eea84ec8b9b084dcb4d96553b586db43788e4deb62ca914d4c8"), looks := false }, kinds := [], alts := [], laidByText := true, laidKinds := [.data, .data], laidTests := true, laidLooks := .later }
def MacCodesUptoCardSaid : Prop := Claim7.holds Tryd.pinned (.plain (OpenSpec.upto macCodesSpec)) macCodesUptoCard

/-- THE SECOND FORM's CARD OF 'sealerylaw02.MacKeys'. -/
def macKeysUptoCard : Claim7 := { stood := { row := macKeysUptoRow, standIns := [], harness := (true, "bc45823d58618eea84ec8b9b084dcb4d96553b586db43788e4deb62ca914d4c8"), looks := false }, kinds := [], alts := [], laidByText := true, laidKinds := [.data, .data], laidTests := true, laidLooks := .later }
def MacKeysUptoCardSaid : Prop := Claim7.holds Tryd.pinned (.plain (OpenSpec.upto macKeysSpec)) macKeysUptoCard

/-- THE SECOND FORM's CARD OF 'sealerylaw15.DrawsKeys'. -/
def drawsKeysUptoCard : Claim7 := { stood := { row := drawsKeysUptoRow, standIns := [], harness := (true, "bc45823d58618eea84ec8b9b084dcb4d96553b586db43788e4deb62ca914d4c8"), looks := false }, kinds := [], alts := [], laidByText := true, laidKinds := [.data, .data], laidTests := true, laidLooks := .later }
def DrawsKeysUptoCardSaid : Prop := Claim7.holds Tryd.pinned (.plain (OpenSpec.upto drawsKeysSpec)) drawsKeysUptoCard

/-- THE SECOND FORM's CARD OF 'sealerylaw15.DrawsSeam'. -/
def drawsSeamUptoCard : Claim7 := { stood := { row := drawsSeamUptoRow, standIns := [], harness := (true, "bc45823d58618eea84ec8b9b084dcb4d96553b586db43788e4deb62ca914d4c8"), looks := false }, kinds := [], alts := [], laidByText := true, laidKinds := [.data, .data], laidTests := true, laidLooks := .later }
def DrawsSeamUptoCardSaid : Prop := Claim7.holds Tryd.pinned (.plain (OpenSpec.upto drawsSeamSpec)) drawsSeamUptoCard

/-- THE SECOND FORM's CARD OF 'sealerylaw15.DrawsKnown'. -/
def drawsKnownUptoCard : Claim7 := { stood := { row := drawsKnownUptoRow, standIns := [], harness := (true, "bc45823d58618eea84ec8b9b084dcb4d96553b586db43788e4deb62ca914d4c8"), looks := false }, kinds := [], alts := [], laidByText := true, laidKinds := [.data, .data], laidTests := true, laidLooks := .later }
def DrawsKnownUptoCardSaid : Prop := Claim7.holds Tryd.pinned (.plain (OpenSpec.upto drawsKnownSpec)) drawsKnownUptoCard

/-- THE SECOND FORM's CARD OF 'sealerylaw21.AuditVerifies'. -/
def auditVerifiesUptoCard : Claim7 := { stood := { row := auditVerifiesUptoRow, standIns := [], harness := (true, "bc45823d58618eea84ec8b9b084dcb4d96553b586db43788e4deb62ca914d4c8"), looks := false }, kinds := [], alts := [], laidByText := true, laidKinds := [.data, .data], laidTests := true, laidLooks := .later }
def AuditVerifiesUptoCardSaid : Prop := Claim7.holds Tryd.pinned (.plain (OpenSpec.upto auditVerifiesSpec)) auditVerifiesUptoCard

/-- THE SECOND FORM's CARD OF 'sealerylaw21.AuditRuns'. -/
def auditRunsUptoCard : Claim7 := { stood := { row := auditRunsUptoRow, standIns := [], harness := (true, "bc45823d58618eea84ec8b9b084dcb4d96553b586db43788e4deb62ca914d4c8"), looks := false }, kinds := [], alts := [], laidByText := true, laidKinds := [.data, .data], laidTests := true, laidLooks := .later }
def AuditRunsUptoCardSaid : Prop := Claim7.holds Tryd.pinned (.plain (OpenSpec.upto auditRunsSpec)) auditRunsUptoCard

/-- THE SECOND FORM's CARD OF 'sealerylaw21.AuditHolds'. -/
def auditHoldsUptoCard : Claim7 := { stood := { row := auditHoldsUptoRow, standIns := [], harness := (true, "bc45823d58618eea84ec8b9b084dcb4d96553b586db43788e4deb62ca914d4c8"), looks := false }, kinds := [], alts := [], laidByText := true, laidKinds := [.data, .data], laidTests := true, laidLooks := .later }
def AuditHoldsUptoCardSaid : Prop := Claim7.holds Tryd.pinned (.plain (OpenSpec.upto auditHoldsSpec)) auditHoldsUptoCard

/-- THE SECOND FORM's CARD OF 'sealerylaw21.AuditApart'. -/
def auditApartUptoCard : Claim7 := { stood := { row := auditApartUptoRow, standIns := [], harness := (true, "bc45823d58618eea84ec8b9b084dcb4d96553b586db43788e4deb62ca914d4c8"), looks := false }, kinds := [], alts := [], laidByText := true, laidKinds := [.data, .data], laidTests := true, laidLooks := .later }
def AuditApartUptoCardSaid : Prop := Claim7.holds Tryd.pinned (.plain (OpenSpec.upto auditApartSpec)) auditApartUptoCard

/-- THE SECOND FORM's CARD OF 'sealerylaw21.AuditBound'. -/
def auditBoundUptoCard : Claim7 := { stood := { row := auditBoundUptoRow, standIns := [], harness := (true, "bc45823d58618eea84ec8b9b084dcb4d96553b586db43788e4deb62ca914d4c8"), looks := false }, kinds := [], alts := [], laidByText := true, laidKinds := [.data, .data], laidTests := true, laidLooks := .later }
def AuditBoundUptoCardSaid : Prop := Claim7.holds Tryd.pinned (.plain (OpenSpec.upto auditBoundSpec)) auditBoundUptoCard

/-- THE SECOND FORM's CARD OF 'sealerylaw21.AuditRowsTold'. -/
def auditRowsToldUptoCard : Claim7 := { stood := { row := auditRowsToldUptoRow, standIns := [], harness := (true, "bc45823d58618eea84ec8b9b084dcb4d96553b586db43788e4deb62ca914d4c8"), looks := false }, kinds := [], alts := [], laidByText := true, laidKinds := [.data, .data], laidTests := true, laidLooks := .later }
def AuditRowsToldUptoCardSaid : Prop := Claim7.holds Tryd.pinned (.plain (OpenSpec.upto auditRowsToldSpec)) auditRowsToldUptoCard

/-- THE SECOND FORM's CARD OF 'sealerylaw21.AuditKnown'. -/
def auditKnownUptoCard : Claim7 := { stood := { row := auditKnownUptoRow, standIns := [], harness := (true, "bc45823d58618eea84ec8b9b084dcb4d96553b586db43788e4deb62ca914d4c8"), looks := false }, kinds := [], alts := [], laidByText := true, laidKinds := [.data, .data], laidTests := true, laidLooks := .later }
def AuditKnownUptoCardSaid : Prop := Claim7.holds Tryd.pinned (.plain (OpenSpec.upto auditKnownSpec)) auditKnownUptoCard
end Rows
end Go.Proofs.YtdpfemhfmofmlaaDoor
