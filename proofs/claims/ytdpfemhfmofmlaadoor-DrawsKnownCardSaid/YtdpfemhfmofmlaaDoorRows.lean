/-
  NARROWER THAN 'FOR EVERY INPUT', by the rows' own cells (each row's printed sentence says how): ShaSums: laid · ShaPieces: laid · ShaWhole: laid · ShaAsked: laid · ShaKnown: laid · MacSame: laid · MacKnown: laid · MacCodes: laid · MacKeys: laid · DrawsKeys: laid · DrawsSeam: laid · DrawsKnown: laid · AuditVerifies: laid · AuditRuns: laid · AuditHolds: laid · AuditApart: laid · AuditBound: laid · AuditRowsTold: laid · AuditKnown: laid.
  DERIVED. THE GIVEN ROWS OF THIS SEAT. 19 by the template 'for every input the law returns true; each argument reads behind the call as it read before'; 0 by the template 'total and deterministic' (their statements: YtdpfemhfmofmlaaDoorTotals.lean).
  GIVEN WITH THE SEED: the statements are not yours to turn. If you find one false, say at which input.
  Laid BY PROGRAM, IN A SANDBOX (cutbox-rows.mjs): the forced cells as the released guide's own fill.sh prints them over the translation 742099fc6af08d1e… (all of the seat's roots in one cut). By AI agents, Wed Nov 11 2026. No macro, syntax, notation, axiom, sorry.
-/
import Derived.Test.YtdpfemhfmofmlaaDoorChecked
import GoSem.Claim
import GoSem.ClaimJoined
import GoSem.ClaimMapViews
import Derived.JoinedTies
import Derived.KernelRfl
namespace Go.Proofs.YtdpfemhfmofmlaaDoor
/- THE CELL 'sum', in the pinned program and in every row, IS THE sha256 OF THE DUMP (.gsa) THAT YtdpfemhfmofmlaaDoorProg.lean LOADS. Nothing in Lean hashes anything: it is a label: what it is worth is what the hold of that sum in a sandbox is worth. -/
noncomputable def Tryd.pinned : Pinned := { name := "ytdpfemhfmofmlaadoor", sum := "742099fc6af08d1ea7177a9e5ee6d140cef50e195d5b21be6ba7cf33f186b3d0", checked := Tryd.checked }
namespace Rows
def none {H : Type} : Left H := { results := [], args := [] }

/- WHAT THE LISTED PACKAGE-LEVEL VARIABLES READ AS WHEN THE CALL BEGINS. Each datum BY PROGRAM (the guide's laid-datum.mjs) off the statement by which the dump's own 'gosem.cut.vars' lays the variable. In a bare row this is a premise. The card (YtdpfemhfmofmlaaDoorCards.lean) ties it to the program's text. -/
def laid_sealery_sha_begins {H : Type} : DataW H := .agg [.lit (.int .u32 1779033703), .lit (.int .u32 3144134277), .lit (.int .u32 1013904242), .lit (.int .u32 2773480762), .lit (.int .u32 1359893119), .lit (.int .u32 2600822924), .lit (.int .u32 528734635), .lit (.int .u32 1541459225)]
def laid_sealery_sha_k {H : Type} : DataW H := .agg [.lit (.int .u32 1116352408), .lit (.int .u32 1899447441), .lit (.int .u32 3049323471), .lit (.int .u32 3921009573), .lit (.int .u32 961987163), .lit (.int .u32 1508970993), .lit (.int .u32 2453635748), .lit (.int .u32 2870763221), .lit (.int .u32 3624381080), .lit (.int .u32 310598401), .lit (.int .u32 607225278), .lit (.int .u32 1426881987), .lit (.int .u32 1925078388), .lit (.int .u32 2162078206), .lit (.int .u32 2614888103), .lit (.int .u32 3248222580), .lit (.int .u32 3835390401), .lit (.int .u32 4022224774), .lit (.int .u32 264347078), .lit (.int .u32 604807628), .lit (.int .u32 770255983), .lit (.int .u32 1249150122), .lit (.int .u32 1555081692), .lit (.int .u32 1996064986), .lit (.int .u32 2554220882), .lit (.int .u32 2821834349), .lit (.int .u32 2952996808), .lit (.int .u32 3210313671), .lit (.int .u32 3336571891), .lit (.int .u32 3584528711), .lit (.int .u32 113926993), .lit (.int .u32 338241895), .lit (.int .u32 666307205), .lit (.int .u32 773529912), .lit (.int .u32 1294757372), .lit (.int .u32 1396182291), .lit (.int .u32 1695183700), .lit (.int .u32 1986661051), .lit (.int .u32 2177026350), .lit (.int .u32 2456956037), .lit (.int .u32 2730485921), .lit (.int .u32 2820302411), .lit (.int .u32 3259730800), .lit (.int .u32 3345764771), .lit (.int .u32 3516065817), .lit (.int .u32 3600352804), .lit (.int .u32 4094571909), .lit (.int .u32 275423344), .lit (.int .u32 430227734), .lit (.int .u32 506948616), .lit (.int .u32 659060556), .lit (.int .u32 883997877), .lit (.int .u32 958139571), .lit (.int .u32 1322822218), .lit (.int .u32 1537002063), .lit (.int .u32 1747873779), .lit (.int .u32 1955562222), .lit (.int .u32 2024104815), .lit (.int .u32 2227730452), .lit (.int .u32 2361852424), .lit (.int .u32 2428436474), .lit (.int .u32 2756734187), .lit (.int .u32 3204031479), .lit (.int .u32 3329325298)]

/-- 'sealerylaw01.ShaSums': WHATEVER THE INPUT: true; the input reads as it did. -/
def shaSumsSpec : ChangeSpec := { name := "shaSums", fn := fun _ => fun
  | [d] => { results := [.lit (.bool true)], args := [d] }
  | _ => none }
def shaSumsRow : OpenClaim := { program := "ytdpfemhfmofmlaadoor", sum := "742099fc6af08d1ea7177a9e5ee6d140cef50e195d5b21be6ba7cf33f186b3d0", func := "sealery/sealerylaw01.ShaSums", spec := "shaSums", named := ["sealery/sha.begins", "sealery/sha.k"], apart := false, laid := [("sealery/sha.begins", laid_sealery_sha_begins), ("sealery/sha.k", laid_sealery_sha_k)] }
def ShaSumsSaid : Prop := shaSumsRow.holds Tryd.pinned (OpenSpec.ofChange shaSumsSpec)

/-- ITS FALSE NEIGHBOUR: 'it returns false'. Refute it at one input. -/
def shaSumsWrong : ChangeSpec := { name := "shaSums", fn := fun _ => fun
  | [d] => { results := [.lit (.bool false)], args := [d] }
  | _ => none }
def ShaSumsWrongFalsely : Prop := shaSumsRow.holds Tryd.pinned (OpenSpec.ofChange shaSumsWrong)

/-- 'sealerylaw01.ShaPieces': WHATEVER THE INPUT: true; the input reads as it did. -/
def shaPiecesSpec : ChangeSpec := { name := "shaPieces", fn := fun _ => fun
  | [d] => { results := [.lit (.bool true)], args := [d] }
  | _ => none }
def shaPiecesRow : OpenClaim := { program := "ytdpfemhfmofmlaadoor", sum := "742099fc6af08d1ea7177a9e5ee6d140cef50e195d5b21be6ba7cf33f186b3d0", func := "sealery/sealerylaw01.ShaPieces", spec := "shaPieces", named := ["sealery/sha.begins", "sealery/sha.k"], apart := false, laid := [("sealery/sha.begins", laid_sealery_sha_begins), ("sealery/sha.k", laid_sealery_sha_k)] }
def ShaPiecesSaid : Prop := shaPiecesRow.holds Tryd.pinned (OpenSpec.ofChange shaPiecesSpec)

/-- ITS FALSE NEIGHBOUR: 'it returns false'. Refute it at one input. -/
def shaPiecesWrong : ChangeSpec := { name := "shaPieces", fn := fun _ => fun
  | [d] => { results := [.lit (.bool false)], args := [d] }
  | _ => none }
def ShaPiecesWrongFalsely : Prop := shaPiecesRow.holds Tryd.pinned (OpenSpec.ofChange shaPiecesWrong)

/-- 'sealerylaw01.ShaWhole': WHATEVER THE INPUT: true; the input reads as it did. -/
def shaWholeSpec : ChangeSpec := { name := "shaWhole", fn := fun _ => fun
  | [d1, d2, d3] => { results := [.lit (.bool true)], args := [d1, d2, d3] }
  | _ => none }
def shaWholeRow : OpenClaim := { program := "ytdpfemhfmofmlaadoor", sum := "742099fc6af08d1ea7177a9e5ee6d140cef50e195d5b21be6ba7cf33f186b3d0", func := "sealery/sealerylaw01.ShaWhole", spec := "shaWhole", named := ["sealery/sha.begins", "sealery/sha.k"], apart := false, laid := [("sealery/sha.begins", laid_sealery_sha_begins), ("sealery/sha.k", laid_sealery_sha_k)] }
def ShaWholeSaid : Prop := shaWholeRow.holds Tryd.pinned (OpenSpec.ofChange shaWholeSpec)

/-- ITS FALSE NEIGHBOUR: 'it returns false'. Refute it at one input. -/
def shaWholeWrong : ChangeSpec := { name := "shaWhole", fn := fun _ => fun
  | [d1, d2, d3] => { results := [.lit (.bool false)], args := [d1, d2, d3] }
  | _ => none }
def ShaWholeWrongFalsely : Prop := shaWholeRow.holds Tryd.pinned (OpenSpec.ofChange shaWholeWrong)

/-- 'sealerylaw01.ShaAsked': WHATEVER THE INPUT: true; the input reads as it did. -/
def shaAskedSpec : ChangeSpec := { name := "shaAsked", fn := fun _ => fun
  | [d1, d2] => { results := [.lit (.bool true)], args := [d1, d2] }
  | _ => none }
def shaAskedRow : OpenClaim := { program := "ytdpfemhfmofmlaadoor", sum := "742099fc6af08d1ea7177a9e5ee6d140cef50e195d5b21be6ba7cf33f186b3d0", func := "sealery/sealerylaw01.ShaAsked", spec := "shaAsked", named := ["sealery/sha.begins", "sealery/sha.k"], apart := false, laid := [("sealery/sha.begins", laid_sealery_sha_begins), ("sealery/sha.k", laid_sealery_sha_k)] }
def ShaAskedSaid : Prop := shaAskedRow.holds Tryd.pinned (OpenSpec.ofChange shaAskedSpec)

/-- ITS FALSE NEIGHBOUR: 'it returns false'. Refute it at one input. -/
def shaAskedWrong : ChangeSpec := { name := "shaAsked", fn := fun _ => fun
  | [d1, d2] => { results := [.lit (.bool false)], args := [d1, d2] }
  | _ => none }
def ShaAskedWrongFalsely : Prop := shaAskedRow.holds Tryd.pinned (OpenSpec.ofChange shaAskedWrong)

/-- 'sealerylaw01.ShaKnown': WHATEVER THE INPUT: true; the input reads as it did. -/
def shaKnownSpec : ChangeSpec := { name := "shaKnown", fn := fun _ => fun
  | [] => { results := [.lit (.bool true)], args := [] }
  | _ => none }
def shaKnownRow : OpenClaim := { program := "ytdpfemhfmofmlaadoor", sum := "742099fc6af08d1ea7177a9e5ee6d140cef50e195d5b21be6ba7cf33f186b3d0", func := "sealery/sealerylaw01.ShaKnown", spec := "shaKnown", named := ["sealery/sha.begins", "sealery/sha.k"], apart := false, laid := [("sealery/sha.begins", laid_sealery_sha_begins), ("sealery/sha.k", laid_sealery_sha_k)] }
def ShaKnownSaid : Prop := shaKnownRow.holds Tryd.pinned (OpenSpec.ofChange shaKnownSpec)

/-- ITS FALSE NEIGHBOUR: 'it returns false'. Refute it at one input. -/
def shaKnownWrong : ChangeSpec := { name := "shaKnown", fn := fun _ => fun
  | [] => { results := [.lit (.bool false)], args := [] }
  | _ => none }
def ShaKnownWrongFalsely : Prop := shaKnownRow.holds Tryd.pinned (OpenSpec.ofChange shaKnownWrong)

/-- 'sealerylaw02.MacSame': WHATEVER THE INPUT: true; the input reads as it did. -/
def macSameSpec : ChangeSpec := { name := "macSame", fn := fun _ => fun
  | [d1, d2] => { results := [.lit (.bool true)], args := [d1, d2] }
  | _ => none }
def macSameRow : OpenClaim := { program := "ytdpfemhfmofmlaadoor", sum := "742099fc6af08d1ea7177a9e5ee6d140cef50e195d5b21be6ba7cf33f186b3d0", func := "sealery/sealerylaw02.MacSame", spec := "macSame", unfollowed := true, recurses := true, named := ["sealery/sha.begins", "sealery/sha.k"], apart := false, laid := [("sealery/sha.begins", laid_sealery_sha_begins), ("sealery/sha.k", laid_sealery_sha_k)] }
def MacSameSaid : Prop := macSameRow.holds Tryd.pinned (OpenSpec.ofChange macSameSpec)

/-- ITS FALSE NEIGHBOUR: 'it returns false'. Refute it at one input. -/
def macSameWrong : ChangeSpec := { name := "macSame", fn := fun _ => fun
  | [d1, d2] => { results := [.lit (.bool false)], args := [d1, d2] }
  | _ => none }
def MacSameWrongFalsely : Prop := macSameRow.holds Tryd.pinned (OpenSpec.ofChange macSameWrong)

/-- 'sealerylaw02.MacKnown': WHATEVER THE INPUT: true; the input reads as it did. -/
def macKnownSpec : ChangeSpec := { name := "macKnown", fn := fun _ => fun
  | [] => { results := [.lit (.bool true)], args := [] }
  | _ => none }
def macKnownRow : OpenClaim := { program := "ytdpfemhfmofmlaadoor", sum := "742099fc6af08d1ea7177a9e5ee6d140cef50e195d5b21be6ba7cf33f186b3d0", func := "sealery/sealerylaw02.MacKnown", spec := "macKnown", unfollowed := true, recurses := true, named := ["sealery/sha.begins", "sealery/sha.k"], apart := false, laid := [("sealery/sha.begins", laid_sealery_sha_begins), ("sealery/sha.k", laid_sealery_sha_k)] }
def MacKnownSaid : Prop := macKnownRow.holds Tryd.pinned (OpenSpec.ofChange macKnownSpec)

/-- ITS FALSE NEIGHBOUR: 'it returns false'. Refute it at one input. -/
def macKnownWrong : ChangeSpec := { name := "macKnown", fn := fun _ => fun
  | [] => { results := [.lit (.bool false)], args := [] }
  | _ => none }
def MacKnownWrongFalsely : Prop := macKnownRow.holds Tryd.pinned (OpenSpec.ofChange macKnownWrong)

/-- 'sealerylaw02.MacCodes': WHATEVER THE INPUT: true; the input reads as it did. -/
def macCodesSpec : ChangeSpec := { name := "macCodes", fn := fun _ => fun
  | [d1, d2, d3] => { results := [.lit (.bool true)], args := [d1, d2, d3] }
  | _ => none }
def macCodesRow : OpenClaim := { program := "ytdpfemhfmofmlaadoor", sum := "742099fc6af08d1ea7177a9e5ee6d140cef50e195d5b21be6ba7cf33f186b3d0", func := "sealery/sealerylaw02.MacCodes", spec := "macCodes", unfollowed := true, recurses := true, named := ["sealery/sha.begins", "sealery/sha.k"], apart := false, laid := [("sealery/sha.begins", laid_sealery_sha_begins), ("sealery/sha.k", laid_sealery_sha_k)] }
def MacCodesSaid : Prop := macCodesRow.holds Tryd.pinned (OpenSpec.ofChange macCodesSpec)

/-- ITS FALSE NEIGHBOUR: 'it returns false'. Refute it at one input. -/
def macCodesWrong : ChangeSpec := { name := "macCodes", fn := fun _ => fun
  | [d1, d2, d3] => { results := [.lit (.bool false)], args := [d1, d2, d3] }
  | _ => none }
def MacCodesWrongFalsely : Prop := macCodesRow.holds Tryd.pinned (OpenSpec.ofChange macCodesWrong)

/-- 'sealerylaw02.MacKeys': WHATEVER THE INPUT: true; the input reads as it did. -/
def macKeysSpec : ChangeSpec := { name := "macKeys", fn := fun _ => fun
  | [d1, d2, d3] => { results := [.lit (.bool true)], args := [d1, d2, d3] }
  | _ => none }
def macKeysRow : OpenClaim := { program := "ytdpfemhfmofmlaadoor", sum := "742099fc6af08d1ea7177a9e5ee6d140cef50e195d5b21be6ba7cf33f186b3d0", func := "sealery/sealerylaw02.MacKeys", spec := "macKeys", unfollowed := true, recurses := true, named := ["sealery/sha.begins", "sealery/sha.k"], apart := false, laid := [("sealery/sha.begins", laid_sealery_sha_begins), ("sealery/sha.k", laid_sealery_sha_k)] }
def MacKeysSaid : Prop := macKeysRow.holds Tryd.pinned (OpenSpec.ofChange macKeysSpec)

/-- ITS FALSE NEIGHBOUR: 'it returns false'. Refute it at one input. -/
def macKeysWrong : ChangeSpec := { name := "macKeys", fn := fun _ => fun
  | [d1, d2, d3] => { results := [.lit (.bool false)], args := [d1, d2, d3] }
  | _ => none }
def MacKeysWrongFalsely : Prop := macKeysRow.holds Tryd.pinned (OpenSpec.ofChange macKeysWrong)

/-- 'sealerylaw15.DrawsKeys': WHATEVER THE INPUT: true; the input reads as it did. -/
def drawsKeysSpec : ChangeSpec := { name := "drawsKeys", fn := fun _ => fun
  | [d1, d2, d3, d4] => { results := [.lit (.bool true)], args := [d1, d2, d3, d4] }
  | _ => none }
def drawsKeysRow : OpenClaim := { program := "ytdpfemhfmofmlaadoor", sum := "742099fc6af08d1ea7177a9e5ee6d140cef50e195d5b21be6ba7cf33f186b3d0", func := "sealery/sealerylaw15.DrawsKeys", spec := "drawsKeys", unfollowed := true, recurses := true, named := ["sealery/sha.begins", "sealery/sha.k"], apart := false, laid := [("sealery/sha.begins", laid_sealery_sha_begins), ("sealery/sha.k", laid_sealery_sha_k)] }
def DrawsKeysSaid : Prop := drawsKeysRow.holds Tryd.pinned (OpenSpec.ofChange drawsKeysSpec)

/-- ITS FALSE NEIGHBOUR: 'it returns false'. Refute it at one input. -/
def drawsKeysWrong : ChangeSpec := { name := "drawsKeys", fn := fun _ => fun
  | [d1, d2, d3, d4] => { results := [.lit (.bool false)], args := [d1, d2, d3, d4] }
  | _ => none }
def DrawsKeysWrongFalsely : Prop := drawsKeysRow.holds Tryd.pinned (OpenSpec.ofChange drawsKeysWrong)

/-- 'sealerylaw15.DrawsSeam': WHATEVER THE INPUT: true; the input reads as it did. -/
def drawsSeamSpec : ChangeSpec := { name := "drawsSeam", fn := fun _ => fun
  | [d1, d2] => { results := [.lit (.bool true)], args := [d1, d2] }
  | _ => none }
def drawsSeamRow : OpenClaim := { program := "ytdpfemhfmofmlaadoor", sum := "742099fc6af08d1ea7177a9e5ee6d140cef50e195d5b21be6ba7cf33f186b3d0", func := "sealery/sealerylaw15.DrawsSeam", spec := "drawsSeam", unfollowed := true, recurses := true, named := ["sealery/sha.begins", "sealery/sha.k"], apart := false, laid := [("sealery/sha.begins", laid_sealery_sha_begins), ("sealery/sha.k", laid_sealery_sha_k)] }
def DrawsSeamSaid : Prop := drawsSeamRow.holds Tryd.pinned (OpenSpec.ofChange drawsSeamSpec)

/-- ITS FALSE NEIGHBOUR: 'it returns false'. Refute it at one input. -/
def drawsSeamWrong : ChangeSpec := { name := "drawsSeam", fn := fun _ => fun
  | [d1, d2] => { results := [.lit (.bool false)], args := [d1, d2] }
  | _ => none }
def DrawsSeamWrongFalsely : Prop := drawsSeamRow.holds Tryd.pinned (OpenSpec.ofChange drawsSeamWrong)

/-- 'sealerylaw15.DrawsKnown': WHATEVER THE INPUT: true; the input reads as it did. -/
def drawsKnownSpec : ChangeSpec := { name := "drawsKnown", fn := fun _ => fun
  | [] => { results := [.lit (.bool true)], args := [] }
  | _ => none }
def drawsKnownRow : OpenClaim := { program := "ytdpfemhfmofmlaadoor", sum := "742099fc6af08d1ea7177a9e5ee6d140cef50e195d5b21be6ba7cf33f186b3d0", func := "sealery/sealerylaw15.DrawsKnown", spec := "drawsKnown", unfollowed := true, recurses := true, named := ["sealery/sha.begins", "sealery/sha.k"], apart := false, laid := [("sealery/sha.begins", laid_sealery_sha_begins), ("sealery/sha.k", laid_sealery_sha_k)] }
def DrawsKnownSaid : Prop := drawsKnownRow.holds Tryd.pinned (OpenSpec.ofChange drawsKnownSpec)

/-- ITS FALSE NEIGHBOUR: 'it returns false'. Refute it at one input. -/
def drawsKnownWrong : ChangeSpec := { name := "drawsKnown", fn := fun _ => fun
  | [] => { results := [.lit (.bool false)], args := [] }
  | _ => none }
def DrawsKnownWrongFalsely : Prop := drawsKnownRow.holds Tryd.pinned (OpenSpec.ofChange drawsKnownWrong)

/-- 'sealerylaw21.AuditVerifies': WHATEVER THE INPUT: true; the input reads as it did. -/
def auditVerifiesSpec : ChangeSpec := { name := "auditVerifies", fn := fun _ => fun
  | [d1, d2, d3, d4] => { results := [.lit (.bool true)], args := [d1, d2, d3, d4] }
  | _ => none }
def auditVerifiesRow : OpenClaim := { program := "ytdpfemhfmofmlaadoor", sum := "742099fc6af08d1ea7177a9e5ee6d140cef50e195d5b21be6ba7cf33f186b3d0", func := "sealery/sealerylaw21.AuditVerifies", spec := "auditVerifies", named := ["sealery/sha.begins", "sealery/sha.k"], apart := false, laid := [("sealery/sha.begins", laid_sealery_sha_begins), ("sealery/sha.k", laid_sealery_sha_k)] }
def AuditVerifiesSaid : Prop := auditVerifiesRow.holds Tryd.pinned (OpenSpec.ofChange auditVerifiesSpec)

/-- ITS FALSE NEIGHBOUR: 'it returns false'. Refute it at one input. -/
def auditVerifiesWrong : ChangeSpec := { name := "auditVerifies", fn := fun _ => fun
  | [d1, d2, d3, d4] => { results := [.lit (.bool false)], args := [d1, d2, d3, d4] }
  | _ => none }
def AuditVerifiesWrongFalsely : Prop := auditVerifiesRow.holds Tryd.pinned (OpenSpec.ofChange auditVerifiesWrong)

/-- 'sealerylaw21.AuditRuns': WHATEVER THE INPUT: true; the input reads as it did. -/
def auditRunsSpec : ChangeSpec := { name := "auditRuns", fn := fun _ => fun
  | [d] => { results := [.lit (.bool true)], args := [d] }
  | _ => none }
def auditRunsRow : OpenClaim := { program := "ytdpfemhfmofmlaadoor", sum := "742099fc6af08d1ea7177a9e5ee6d140cef50e195d5b21be6ba7cf33f186b3d0", func := "sealery/sealerylaw21.AuditRuns", spec := "auditRuns", named := ["sealery/sha.begins", "sealery/sha.k"], apart := false, laid := [("sealery/sha.begins", laid_sealery_sha_begins), ("sealery/sha.k", laid_sealery_sha_k)] }
def AuditRunsSaid : Prop := auditRunsRow.holds Tryd.pinned (OpenSpec.ofChange auditRunsSpec)

/-- ITS FALSE NEIGHBOUR: 'it returns false'. Refute it at one input. -/
def auditRunsWrong : ChangeSpec := { name := "auditRuns", fn := fun _ => fun
  | [d] => { results := [.lit (.bool false)], args := [d] }
  | _ => none }
def AuditRunsWrongFalsely : Prop := auditRunsRow.holds Tryd.pinned (OpenSpec.ofChange auditRunsWrong)

/-- 'sealerylaw21.AuditHolds': WHATEVER THE INPUT: true; the input reads as it did. -/
def auditHoldsSpec : ChangeSpec := { name := "auditHolds", fn := fun _ => fun
  | [d1, d2] => { results := [.lit (.bool true)], args := [d1, d2] }
  | _ => none }
def auditHoldsRow : OpenClaim := { program := "ytdpfemhfmofmlaadoor", sum := "742099fc6af08d1ea7177a9e5ee6d140cef50e195d5b21be6ba7cf33f186b3d0", func := "sealery/sealerylaw21.AuditHolds", spec := "auditHolds", named := ["sealery/sha.begins", "sealery/sha.k"], apart := false, laid := [("sealery/sha.begins", laid_sealery_sha_begins), ("sealery/sha.k", laid_sealery_sha_k)] }
def AuditHoldsSaid : Prop := auditHoldsRow.holds Tryd.pinned (OpenSpec.ofChange auditHoldsSpec)

/-- ITS FALSE NEIGHBOUR: 'it returns false'. Refute it at one input. -/
def auditHoldsWrong : ChangeSpec := { name := "auditHolds", fn := fun _ => fun
  | [d1, d2] => { results := [.lit (.bool false)], args := [d1, d2] }
  | _ => none }
def AuditHoldsWrongFalsely : Prop := auditHoldsRow.holds Tryd.pinned (OpenSpec.ofChange auditHoldsWrong)

/-- 'sealerylaw21.AuditApart': WHATEVER THE INPUT: true; the input reads as it did. -/
def auditApartSpec : ChangeSpec := { name := "auditApart", fn := fun _ => fun
  | [d1, d2] => { results := [.lit (.bool true)], args := [d1, d2] }
  | _ => none }
def auditApartRow : OpenClaim := { program := "ytdpfemhfmofmlaadoor", sum := "742099fc6af08d1ea7177a9e5ee6d140cef50e195d5b21be6ba7cf33f186b3d0", func := "sealery/sealerylaw21.AuditApart", spec := "auditApart", named := ["sealery/sha.begins", "sealery/sha.k"], apart := false, laid := [("sealery/sha.begins", laid_sealery_sha_begins), ("sealery/sha.k", laid_sealery_sha_k)] }
def AuditApartSaid : Prop := auditApartRow.holds Tryd.pinned (OpenSpec.ofChange auditApartSpec)

/-- ITS FALSE NEIGHBOUR: 'it returns false'. Refute it at one input. -/
def auditApartWrong : ChangeSpec := { name := "auditApart", fn := fun _ => fun
  | [d1, d2] => { results := [.lit (.bool false)], args := [d1, d2] }
  | _ => none }
def AuditApartWrongFalsely : Prop := auditApartRow.holds Tryd.pinned (OpenSpec.ofChange auditApartWrong)

/-- 'sealerylaw21.AuditBound': WHATEVER THE INPUT: true; the input reads as it did. -/
def auditBoundSpec : ChangeSpec := { name := "auditBound", fn := fun _ => fun
  | [d1, d2, d3, d4] => { results := [.lit (.bool true)], args := [d1, d2, d3, d4] }
  | _ => none }
def auditBoundRow : OpenClaim := { program := "ytdpfemhfmofmlaadoor", sum := "742099fc6af08d1ea7177a9e5ee6d140cef50e195d5b21be6ba7cf33f186b3d0", func := "sealery/sealerylaw21.AuditBound", spec := "auditBound", named := ["sealery/sha.begins", "sealery/sha.k"], apart := false, laid := [("sealery/sha.begins", laid_sealery_sha_begins), ("sealery/sha.k", laid_sealery_sha_k)] }
def AuditBoundSaid : Prop := auditBoundRow.holds Tryd.pinned (OpenSpec.ofChange auditBoundSpec)

/-- ITS FALSE NEIGHBOUR: 'it returns false'. Refute it at one input. -/
def auditBoundWrong : ChangeSpec := { name := "auditBound", fn := fun _ => fun
  | [d1, d2, d3, d4] => { results := [.lit (.bool false)], args := [d1, d2, d3, d4] }
  | _ => none }
def AuditBoundWrongFalsely : Prop := auditBoundRow.holds Tryd.pinned (OpenSpec.ofChange auditBoundWrong)

/-- 'sealerylaw21.AuditRowsTold': WHATEVER THE INPUT: true; the input reads as it did. -/
def auditRowsToldSpec : ChangeSpec := { name := "auditRowsTold", fn := fun _ => fun
  | [d1, d2, d3] => { results := [.lit (.bool true)], args := [d1, d2, d3] }
  | _ => none }
def auditRowsToldRow : OpenClaim := { program := "ytdpfemhfmofmlaadoor", sum := "742099fc6af08d1ea7177a9e5ee6d140cef50e195d5b21be6ba7cf33f186b3d0", func := "sealery/sealerylaw21.AuditRowsTold", spec := "auditRowsTold", named := ["sealery/sha.begins", "sealery/sha.k"], apart := false, laid := [("sealery/sha.begins", laid_sealery_sha_begins), ("sealery/sha.k", laid_sealery_sha_k)] }
def AuditRowsToldSaid : Prop := auditRowsToldRow.holds Tryd.pinned (OpenSpec.ofChange auditRowsToldSpec)

/-- ITS FALSE NEIGHBOUR: 'it returns false'. Refute it at one input. -/
def auditRowsToldWrong : ChangeSpec := { name := "auditRowsTold", fn := fun _ => fun
  | [d1, d2, d3] => { results := [.lit (.bool false)], args := [d1, d2, d3] }
  | _ => none }
def AuditRowsToldWrongFalsely : Prop := auditRowsToldRow.holds Tryd.pinned (OpenSpec.ofChange auditRowsToldWrong)

/-- 'sealerylaw21.AuditKnown': WHATEVER THE INPUT: true; the input reads as it did. -/
def auditKnownSpec : ChangeSpec := { name := "auditKnown", fn := fun _ => fun
  | [] => { results := [.lit (.bool true)], args := [] }
  | _ => none }
def auditKnownRow : OpenClaim := { program := "ytdpfemhfmofmlaadoor", sum := "742099fc6af08d1ea7177a9e5ee6d140cef50e195d5b21be6ba7cf33f186b3d0", func := "sealery/sealerylaw21.AuditKnown", spec := "auditKnown", named := ["sealery/sha.begins", "sealery/sha.k"], apart := false, laid := [("sealery/sha.begins", laid_sealery_sha_begins), ("sealery/sha.k", laid_sealery_sha_k)] }
def AuditKnownSaid : Prop := auditKnownRow.holds Tryd.pinned (OpenSpec.ofChange auditKnownSpec)

/-- ITS FALSE NEIGHBOUR: 'it returns false'. Refute it at one input. -/
def auditKnownWrong : ChangeSpec := { name := "auditKnown", fn := fun _ => fun
  | [] => { results := [.lit (.bool false)], args := [] }
  | _ => none }
def AuditKnownWrongFalsely : Prop := auditKnownRow.holds Tryd.pinned (OpenSpec.ofChange auditKnownWrong)

/- THE SECOND FORM. 'bulk': how many values and letters a reading holds, each counted each time it is reached (what is shared counts as often as it is met; a slice's spare places count too). A statement '..UptoSaid' is the law's where the arguments, and the package variables that the reading takes, are together of bulk at most 1048576: NARROWER than '..Said'. Prove '..Said' where nothing that the law and all that it calls make is longer than what came in: it says more and counts as full. Else prove '..UptoSaid'. A law counts once. -/
mutual
def uptoBulk {H : Type} : DataW H → Nat
  | .lit (.string bytes) => bytes.length + 1
  | .lit _ => 1
  | .nil => 1
  | .ptr d => uptoBulk d + 1
  | .slice elems spare => uptoBulkAll elems + uptoBulkAll spare + 1
  | .agg parts => uptoBulkAll parts + 1
  | .iface _ d => uptoBulk d + 1
  | .map entries => uptoBulkEntries entries + 1
  | .held _ => 1
def uptoBulkAll {H : Type} : List (DataW H) → Nat
  | [] => 0
  | d :: r => uptoBulk d + uptoBulkAll r
def uptoBulkEntries {H : Type} : List (Lit × DataW H) → Nat
  | [] => 0
  | x :: r => uptoBulkEntry x + uptoBulkEntries r
def uptoBulkEntry {H : Type} : Lit × DataW H → Nat
  | (.string bytes, d) => bytes.length + uptoBulk d + 1
  | (_, d) => uptoBulk d + 1
 end
def uptoSmall : (H : Type) → List (DataW H) → Bool := fun _ ds => decide (uptoBulkAll ds ≤ 1048576)
def OpenSpec.upto (s : _root_.Go.ChangeSpec) : _root_.Go.OpenSpec := { _root_.Go.OpenSpec.ofChange s with cond := some uptoSmall }

/-- 'sealerylaw01.ShaSums', WHERE WHAT IT READS IS OF BULK AT MOST 1048576: true; the input reads as it did. -/
def shaSumsUptoRow : OpenClaim := { program := "ytdpfemhfmofmlaadoor", sum := "742099fc6af08d1ea7177a9e5ee6d140cef50e195d5b21be6ba7cf33f186b3d0", func := "sealery/sealerylaw01.ShaSums", spec := "shaSums", named := ["sealery/sha.begins", "sealery/sha.k"], apart := false, laid := [("sealery/sha.begins", laid_sealery_sha_begins), ("sealery/sha.k", laid_sealery_sha_k)], narrowed := true }
def ShaSumsUptoSaid : Prop := shaSumsUptoRow.holds Tryd.pinned (OpenSpec.upto shaSumsSpec)

/-- 'sealerylaw01.ShaPieces', WHERE WHAT IT READS IS OF BULK AT MOST 1048576: true; the input reads as it did. -/
def shaPiecesUptoRow : OpenClaim := { program := "ytdpfemhfmofmlaadoor", sum := "742099fc6af08d1ea7177a9e5ee6d140cef50e195d5b21be6ba7cf33f186b3d0", func := "sealery/sealerylaw01.ShaPieces", spec := "shaPieces", named := ["sealery/sha.begins", "sealery/sha.k"], apart := false, laid := [("sealery/sha.begins", laid_sealery_sha_begins), ("sealery/sha.k", laid_sealery_sha_k)], narrowed := true }
def ShaPiecesUptoSaid : Prop := shaPiecesUptoRow.holds Tryd.pinned (OpenSpec.upto shaPiecesSpec)

/-- 'sealerylaw01.ShaWhole', WHERE WHAT IT READS IS OF BULK AT MOST 1048576: true; the input reads as it did. -/
def shaWholeUptoRow : OpenClaim := { program := "ytdpfemhfmofmlaadoor", sum := "742099fc6af08d1ea7177a9e5ee6d140cef50e195d5b21be6ba7cf33f186b3d0", func := "sealery/sealerylaw01.ShaWhole", spec := "shaWhole", named := ["sealery/sha.begins", "sealery/sha.k"], apart := false, laid := [("sealery/sha.begins", laid_sealery_sha_begins), ("sealery/sha.k", laid_sealery_sha_k)], narrowed := true }
def ShaWholeUptoSaid : Prop := shaWholeUptoRow.holds Tryd.pinned (OpenSpec.upto shaWholeSpec)

/-- 'sealerylaw01.ShaAsked', WHERE WHAT IT READS IS OF BULK AT MOST 1048576: true; the input reads as it did. -/
def shaAskedUptoRow : OpenClaim := { program := "ytdpfemhfmofmlaadoor", sum := "742099fc6af08d1ea7177a9e5ee6d140cef50e195d5b21be6ba7cf33f186b3d0", func := "sealery/sealerylaw01.ShaAsked", spec := "shaAsked", named := ["sealery/sha.begins", "sealery/sha.k"], apart := false, laid := [("sealery/sha.begins", laid_sealery_sha_begins), ("sealery/sha.k", laid_sealery_sha_k)], narrowed := true }
def ShaAskedUptoSaid : Prop := shaAskedUptoRow.holds Tryd.pinned (OpenSpec.upto shaAskedSpec)

/-- 'sealerylaw01.ShaKnown', WHERE WHAT IT READS IS OF BULK AT MOST 1048576: true; the input reads as it did. -/
def shaKnownUptoRow : OpenClaim := { program := "ytdpfemhfmofmlaadoor", sum := "742099fc6af08d1ea7177a9e5ee6d140cef50e195d5b21be6ba7cf33f186b3d0", func := "sealery/sealerylaw01.ShaKnown", spec := "shaKnown", named := ["sealery/sha.begins", "sealery/sha.k"], apart := false, laid := [("sealery/sha.begins", laid_sealery_sha_begins), ("sealery/sha.k", laid_sealery_sha_k)], narrowed := true }
def ShaKnownUptoSaid : Prop := shaKnownUptoRow.holds Tryd.pinned (OpenSpec.upto shaKnownSpec)

/-- 'sealerylaw02.MacSame', WHERE WHAT IT READS IS OF BULK AT MOST 1048576: true; the input reads as it did. -/
def macSameUptoRow : OpenClaim := { program := "ytdpfemhfmofmlaadoor", sum := "742099fc6af08d1ea7177a9e5ee6d140cef50e195d5b21be6ba7cf33f186b3d0", func := "sealery/sealerylaw02.MacSame", spec := "macSame", unfollowed := true, recurses := true, named := ["sealery/sha.begins", "sealery/sha.k"], apart := false, laid := [("sealery/sha.begins", laid_sealery_sha_begins), ("sealery/sha.k", laid_sealery_sha_k)], narrowed := true }
def MacSameUptoSaid : Prop := macSameUptoRow.holds Tryd.pinned (OpenSpec.upto macSameSpec)

/-- 'sealerylaw02.MacKnown', WHERE WHAT IT READS IS OF BULK AT MOST 1048576: true; the input reads as it did. -/
def macKnownUptoRow : OpenClaim := { program := "ytdpfemhfmofmlaadoor", sum := "742099fc6af08d1ea7177a9e5ee6d140cef50e195d5b21be6ba7cf33f186b3d0", func := "sealery/sealerylaw02.MacKnown", spec := "macKnown", unfollowed := true, recurses := true, named := ["sealery/sha.begins", "sealery/sha.k"], apart := false, laid := [("sealery/sha.begins", laid_sealery_sha_begins), ("sealery/sha.k", laid_sealery_sha_k)], narrowed := true }
def MacKnownUptoSaid : Prop := macKnownUptoRow.holds Tryd.pinned (OpenSpec.upto macKnownSpec)

/-- 'sealerylaw02.MacCodes', WHERE WHAT IT READS IS OF BULK AT MOST 1048576: true; the input reads as it did. -/
def macCodesUptoRow : OpenClaim := { program := "ytdpfemhfmofmlaadoor", sum := "742099fc6af08d1ea7177a9e5ee6d140cef50e195d5b21be6ba7cf33f186b3d0", func := "sealery/sealerylaw02.MacCodes", spec := "macCodes", unfollowed := true, recurses := true, named := ["sealery/sha.begins", "sealery/sha.k"], apart := false, laid := [("sealery/sha.begins", laid_sealery_sha_begins), ("sealery/sha.k", laid_sealery_sha_k)], narrowed := true }
def MacCodesUptoSaid : Prop := macCodesUptoRow.holds Tryd.pinned (OpenSpec.upto macCodesSpec)

/-- 'sealerylaw02.MacKeys', WHERE WHAT IT READS IS OF BULK AT MOST 1048576: true; the input reads as it did. -/
def macKeysUptoRow : OpenClaim := { program := "ytdpfemhfmofmlaadoor", sum := "742099fc6af08d1ea7177a9e5ee6d140cef50e195d5b21be6ba7cf33f186b3d0", func := "sealery/sealerylaw02.MacKeys", spec := "macKeys", unfollowed := true, recurses := true, named := ["sealery/sha.begins", "sealery/sha.k"], apart := false, laid := [("sealery/sha.begins", laid_sealery_sha_begins), ("sealery/sha.k", laid_sealery_sha_k)], narrowed := true }
def MacKeysUptoSaid : Prop := macKeysUptoRow.holds Tryd.pinned (OpenSpec.upto macKeysSpec)

/-- 'sealerylaw15.DrawsKeys', WHERE WHAT IT READS IS OF BULK AT MOST 1048576: true; the input reads as it did. -/
def drawsKeysUptoRow : OpenClaim := { program := "ytdpfemhfmofmlaadoor", sum := "742099fc6af08d1ea7177a9e5ee6d140cef50e195d5b21be6ba7cf33f186b3d0", func := "sealery/sealerylaw15.DrawsKeys", spec := "drawsKeys", unfollowed := true, recurses := true, named := ["sealery/sha.begins", "sealery/sha.k"], apart := false, laid := [("sealery/sha.begins", laid_sealery_sha_begins), ("sealery/sha.k", laid_sealery_sha_k)], narrowed := true }
def DrawsKeysUptoSaid : Prop := drawsKeysUptoRow.holds Tryd.pinned (OpenSpec.upto drawsKeysSpec)

/-- 'sealerylaw15.DrawsSeam', WHERE WHAT IT READS IS OF BULK AT MOST 1048576: true; the input reads as it did. -/
def drawsSeamUptoRow : OpenClaim := { program := "ytdpfemhfmofmlaadoor", sum := "742099fc6af08d1ea7177a9e5ee6d140cef50e195d5b21be6ba7cf33f186b3d0", func := "sealery/sealerylaw15.DrawsSeam", spec := "drawsSeam", unfollowed := true, recurses := true, named := ["sealery/sha.begins", "sealery/sha.k"], apart := false, laid := [("sealery/sha.begins", laid_sealery_sha_begins), ("sealery/sha.k", laid_sealery_sha_k)], narrowed := true }
def DrawsSeamUptoSaid : Prop := drawsSeamUptoRow.holds Tryd.pinned (OpenSpec.upto drawsSeamSpec)

/-- 'sealerylaw15.DrawsKnown', WHERE WHAT IT READS IS OF BULK AT MOST 1048576: true; the input reads as it did. -/
def drawsKnownUptoRow : OpenClaim := { program := "ytdpfemhfmofmlaadoor", sum := "742099fc6af08d1ea7177a9e5ee6d140cef50e195d5b21be6ba7cf33f186b3d0", func := "sealery/sealerylaw15.DrawsKnown", spec := "drawsKnown", unfollowed := true, recurses := true, named := ["sealery/sha.begins", "sealery/sha.k"], apart := false, laid := [("sealery/sha.begins", laid_sealery_sha_begins), ("sealery/sha.k", laid_sealery_sha_k)], narrowed := true }
def DrawsKnownUptoSaid : Prop := drawsKnownUptoRow.holds Tryd.pinned (OpenSpec.upto drawsKnownSpec)

/-- 'sealerylaw21.AuditVerifies', WHERE WHAT IT READS IS OF BULK AT MOST 1048576: true; the input reads as it did. -/
def auditVerifiesUptoRow : OpenClaim := { program := "ytdpfemhfmofmlaadoor", sum := "742099fc6af08d1ea7177a9e5ee6d140cef50e195d5b21be6ba7cf33f186b3d0", func := "sealery/sealerylaw21.AuditVerifies", spec := "auditVerifies", named := ["sealery/sha.begins", "sealery/sha.k"], apart := false, laid := [("sealery/sha.begins", laid_sealery_sha_begins), ("sealery/sha.k", laid_sealery_sha_k)], narrowed := true }
def AuditVerifiesUptoSaid : Prop := auditVerifiesUptoRow.holds Tryd.pinned (OpenSpec.upto auditVerifiesSpec)

/-- 'sealerylaw21.AuditRuns', WHERE WHAT IT READS IS OF BULK AT MOST 1048576: true; the input reads as it did. -/
def auditRunsUptoRow : OpenClaim := { program := "ytdpfemhfmofmlaadoor", sum := "742099fc6af08d1ea7177a9e5ee6d140cef50e195d5b21be6ba7cf33f186b3d0", func := "sealery/sealerylaw21.AuditRuns", spec := "auditRuns", named := ["sealery/sha.begins", "sealery/sha.k"], apart := false, laid := [("sealery/sha.begins", laid_sealery_sha_begins), ("sealery/sha.k", laid_sealery_sha_k)], narrowed := true }
def AuditRunsUptoSaid : Prop := auditRunsUptoRow.holds Tryd.pinned (OpenSpec.upto auditRunsSpec)

/-- 'sealerylaw21.AuditHolds', WHERE WHAT IT READS IS OF BULK AT MOST 1048576: true; the input reads as it did. -/
def auditHoldsUptoRow : OpenClaim := { program := "ytdpfemhfmofmlaadoor", sum := "742099fc6af08d1ea7177a9e5ee6d140cef50e195d5b21be6ba7cf33f186b3d0", func := "sealery/sealerylaw21.AuditHolds", spec := "auditHolds", named := ["sealery/sha.begins", "sealery/sha.k"], apart := false, laid := [("sealery/sha.begins", laid_sealery_sha_begins), ("sealery/sha.k", laid_sealery_sha_k)], narrowed := true }
def AuditHoldsUptoSaid : Prop := auditHoldsUptoRow.holds Tryd.pinned (OpenSpec.upto auditHoldsSpec)

/-- 'sealerylaw21.AuditApart', WHERE WHAT IT READS IS OF BULK AT MOST 1048576: true; the input reads as it did. -/
def auditApartUptoRow : OpenClaim := { program := "ytdpfemhfmofmlaadoor", sum := "742099fc6af08d1ea7177a9e5ee6d140cef50e195d5b21be6ba7cf33f186b3d0", func := "sealery/sealerylaw21.AuditApart", spec := "auditApart", named := ["sealery/sha.begins", "sealery/sha.k"], apart := false, laid := [("sealery/sha.begins", laid_sealery_sha_begins), ("sealery/sha.k", laid_sealery_sha_k)], narrowed := true }
def AuditApartUptoSaid : Prop := auditApartUptoRow.holds Tryd.pinned (OpenSpec.upto auditApartSpec)

/-- 'sealerylaw21.AuditBound', WHERE WHAT IT READS IS OF BULK AT MOST 1048576: true; the input reads as it did. -/
def auditBoundUptoRow : OpenClaim := { program := "ytdpfemhfmofmlaadoor", sum := "742099fc6af08d1ea7177a9e5ee6d140cef50e195d5b21be6ba7cf33f186b3d0", func := "sealery/sealerylaw21.AuditBound", spec := "auditBound", named := ["sealery/sha.begins", "sealery/sha.k"], apart := false, laid := [("sealery/sha.begins", laid_sealery_sha_begins), ("sealery/sha.k", laid_sealery_sha_k)], narrowed := true }
def AuditBoundUptoSaid : Prop := auditBoundUptoRow.holds Tryd.pinned (OpenSpec.upto auditBoundSpec)

/-- 'sealerylaw21.AuditRowsTold', WHERE WHAT IT READS IS OF BULK AT MOST 1048576: true; the input reads as it did. -/
def auditRowsToldUptoRow : OpenClaim := { program := "ytdpfemhfmofmlaadoor", sum := "742099fc6af08d1ea7177a9e5ee6d140cef50e195d5b21be6ba7cf33f186b3d0", func := "sealery/sealerylaw21.AuditRowsTold", spec := "auditRowsTold", named := ["sealery/sha.begins", "sealery/sha.k"], apart := false, laid := [("sealery/sha.begins", laid_sealery_sha_begins), ("sealery/sha.k", laid_sealery_sha_k)], narrowed := true }
def AuditRowsToldUptoSaid : Prop := auditRowsToldUptoRow.holds Tryd.pinned (OpenSpec.upto auditRowsToldSpec)

/-- 'sealerylaw21.AuditKnown', WHERE WHAT IT READS IS OF BULK AT MOST 1048576: true; the input reads as it did. -/
def auditKnownUptoRow : OpenClaim := { program := "ytdpfemhfmofmlaadoor", sum := "742099fc6af08d1ea7177a9e5ee6d140cef50e195d5b21be6ba7cf33f186b3d0", func := "sealery/sealerylaw21.AuditKnown", spec := "auditKnown", named := ["sealery/sha.begins", "sealery/sha.k"], apart := false, laid := [("sealery/sha.begins", laid_sealery_sha_begins), ("sealery/sha.k", laid_sealery_sha_k)], narrowed := true }
def AuditKnownUptoSaid : Prop := auditKnownUptoRow.holds Tryd.pinned (OpenSpec.upto auditKnownSpec)

end Rows
end Go.Proofs.YtdpfemhfmofmlaaDoor
