/-
  DERIVED. GIVEN WITH THE SEED: THE CARDS: each row of YtmhekefjlepfpaaDoorRows.lean that lists a variable, with what it lists TIED to the program's text (the seventh form; the later family's looks); each row that meets fmt, with fmt's text TOLD by the authors' own Lean function (tested against real Go, not proved from fmt's source: count such statements apart). THE CARD IS WHAT COUNTS. Prove the row's statement (the work); the ties are given (YtmhekefjlepfpaaDoorTie.lean); close each card by the builder's one call (the guide's Derived/Test/ToyasCard.lean, 'card_holds'). Laid BY PROGRAM, IN A SANDBOX (cutbox-door.mjs). By AI agents, Wed Nov 11 2026. No macro, syntax, notation, axiom, sorry.
-/
import Derived.Test.YtmhekefjlepfpaaDoorRows
import GoSem.ClaimSeven
namespace Go.Proofs.YtmhekefjlepfpaaDoor
namespace Rows

/-- THE TIED CARD OF 'laws.FnExactShaStart'. -/
def fnExactShaStartCard : Claim7 := { stood := { row := fnExactShaStartRow, standIns := [], harness := (true, "41235cd14b333e21714be15261806bba05b2951f4fb66624a5a40b65fd1f9ddb"), looks := false }, kinds := [], alts := [], laidByText := true, laidKinds := [.data], laidTests := true, laidLooks := .later }
def FnExactShaStartCardSaid : Prop := Claim7.holds Tryd.pinned (.plain (OpenSpec.ofChange fnExactShaStartSpec)) fnExactShaStartCard

/-- THE TIED CARD OF 'laws.FnExactDigest'. -/
def fnExactDigestCard : Claim7 := { stood := { row := fnExactDigestRow, standIns := [], harness := (true, "41235cd14b333e21714be15261806bba05b2951f4fb66624a5a40b65fd1f9ddb"), looks := false }, kinds := [], alts := [], laidByText := true, laidKinds := [.data, .data], laidTests := true, laidLooks := .later }
def FnExactDigestCardSaid : Prop := Claim7.holds Tryd.pinned (.plain (OpenSpec.ofChange fnExactDigestSpec)) fnExactDigestCard

/-- THE TIED CARD OF 'laws.FnExactCutDigest'. -/
def fnExactCutDigestCard : Claim7 := { stood := { row := fnExactCutDigestRow, standIns := [], harness := (true, "41235cd14b333e21714be15261806bba05b2951f4fb66624a5a40b65fd1f9ddb"), looks := false }, kinds := [], alts := [], laidByText := true, laidKinds := [.data, .data], laidTests := true, laidLooks := .later }
def FnExactCutDigestCardSaid : Prop := Claim7.holds Tryd.pinned (.plain (OpenSpec.ofChange fnExactCutDigestSpec)) fnExactCutDigestCard

/-- THE TIED CARD OF 'laws.FnExactStartOf'. -/
def fnExactStartOfCard : Claim7 := { stood := { row := fnExactStartOfRow, standIns := [], harness := (true, "41235cd14b333e21714be15261806bba05b2951f4fb66624a5a40b65fd1f9ddb"), looks := false }, kinds := [], alts := [], laidByText := true, laidKinds := [.data, .data], laidTests := true, laidLooks := .later }
def FnExactStartOfCardSaid : Prop := Claim7.holds Tryd.pinned (.plain (OpenSpec.ofChange fnExactStartOfSpec)) fnExactStartOfCard

/-- THE TIED CARD OF 'laws.FnExactHmacKey'. -/
def fnExactHmacKeyCard : Claim7 := { stood := { row := fnExactHmacKeyRow, standIns := [], harness := (true, "41235cd14b333e21714be15261806bba05b2951f4fb66624a5a40b65fd1f9ddb"), looks := false }, kinds := [], alts := [], laidByText := true, laidKinds := [.data, .data], laidTests := true, laidLooks := .later }
def FnExactHmacKeyCardSaid : Prop := Claim7.holds Tryd.pinned (.plain (OpenSpec.ofChange fnExactHmacKeySpec)) fnExactHmacKeyCard

/-- THE TIED CARD OF 'laws.FnExactShaBlock'. -/
def fnExactShaBlockCard : Claim7 := { stood := { row := fnExactShaBlockRow, standIns := [], harness := (true, "41235cd14b333e21714be15261806bba05b2951f4fb66624a5a40b65fd1f9ddb"), looks := false }, kinds := [], alts := [], laidByText := true, laidKinds := [.data], laidTests := true, laidLooks := .later }
def FnExactShaBlockCardSaid : Prop := Claim7.holds Tryd.pinned (.plain (OpenSpec.ofChange fnExactShaBlockSpec)) fnExactShaBlockCard

/-- THE TIED CARD OF 'laws.FnExactDigestHex'. -/
def fnExactDigestHexCard : Claim7 := { stood := { row := fnExactDigestHexRow, standIns := [], harness := (true, "41235cd14b333e21714be15261806bba05b2951f4fb66624a5a40b65fd1f9ddb"), looks := false }, kinds := [], alts := [], laidByText := true, laidKinds := [.data, .data], laidTests := true, laidLooks := .later }
def FnExactDigestHexCardSaid : Prop := Claim7.holds Tryd.pinned (.plain (OpenSpec.ofChange fnExactDigestHexSpec)) fnExactDigestHexCard

/-- THE TIED CARD OF 'laws.FnExactHmac'. -/
def fnExactHmacCard : Claim7 := { stood := { row := fnExactHmacRow, standIns := [], harness := (true, "41235cd14b333e21714be15261806bba05b2951f4fb66624a5a40b65fd1f9ddb"), looks := false }, kinds := [], alts := [], laidByText := true, laidKinds := [.data, .data], laidTests := true, laidLooks := .later }
def FnExactHmacCardSaid : Prop := Claim7.holds Tryd.pinned (.plain (OpenSpec.ofChange fnExactHmacSpec)) fnExactHmacCard

/-- THE TIED CARD OF 'laws.FnExactHmacOk'. -/
def fnExactHmacOkCard : Claim7 := { stood := { row := fnExactHmacOkRow, standIns := [], harness := (true, "41235cd14b333e21714be15261806bba05b2951f4fb66624a5a40b65fd1f9ddb"), looks := false }, kinds := [], alts := [], laidByText := true, laidKinds := [.data, .data], laidTests := true, laidLooks := .later }
def FnExactHmacOkCardSaid : Prop := Claim7.holds Tryd.pinned (.plain (OpenSpec.ofChange fnExactHmacOkSpec)) fnExactHmacOkCard

/-- THE TIED CARD OF 'laws.FnExactTokenOf'. -/
def fnExactTokenOfCard : Claim7 := { stood := { row := fnExactTokenOfRow, standIns := [], harness := (true, "41235cd14b333e21714be15261806bba05b2951f4fb66624a5a40b65fd1f9ddb"), looks := false }, kinds := [], alts := [], laidByText := true, laidKinds := [.data, .data], laidTests := true, laidLooks := .later }
def FnExactTokenOfCardSaid : Prop := Claim7.holds Tryd.pinned (.plain (OpenSpec.ofChange fnExactTokenOfSpec)) fnExactTokenOfCard

/-- THE TIED CARD OF 'laws.FnExactCutMark'. -/
def fnExactCutMarkCard : Claim7 := { stood := { row := fnExactCutMarkRow, standIns := [], harness := (true, "41235cd14b333e21714be15261806bba05b2951f4fb66624a5a40b65fd1f9ddb"), looks := false }, kinds := [], alts := [], laidByText := true, laidKinds := [.data, .data], laidTests := true, laidLooks := .later }
def FnExactCutMarkCardSaid : Prop := Claim7.holds Tryd.pinned (.plain (OpenSpec.ofChange fnExactCutMarkSpec)) fnExactCutMarkCard

/-- THE TIED CARD OF 'laws.FnExactJoinMark'. -/
def fnExactJoinMarkCard : Claim7 := { stood := { row := fnExactJoinMarkRow, standIns := [], harness := (true, "41235cd14b333e21714be15261806bba05b2951f4fb66624a5a40b65fd1f9ddb"), looks := false }, kinds := [], alts := [], laidByText := true, laidKinds := [.data, .data], laidTests := true, laidLooks := .later }
def FnExactJoinMarkCardSaid : Prop := Claim7.holds Tryd.pinned (.plain (OpenSpec.ofChange fnExactJoinMarkSpec)) fnExactJoinMarkCard

/-- THE TIED CARD OF 'laws.FnExactAddrMark'. -/
def fnExactAddrMarkCard : Claim7 := { stood := { row := fnExactAddrMarkRow, standIns := [], harness := (true, "41235cd14b333e21714be15261806bba05b2951f4fb66624a5a40b65fd1f9ddb"), looks := false }, kinds := [], alts := [], laidByText := true, laidKinds := [.data, .data], laidTests := true, laidLooks := .later }
def FnExactAddrMarkCardSaid : Prop := Claim7.holds Tryd.pinned (.plain (OpenSpec.ofChange fnExactAddrMarkSpec)) fnExactAddrMarkCard

/-- THE TIED CARD OF 'laws.FnExactBackMark'. -/
def fnExactBackMarkCard : Claim7 := { stood := { row := fnExactBackMarkRow, standIns := [], harness := (true, "41235cd14b333e21714be15261806bba05b2951f4fb66624a5a40b65fd1f9ddb"), looks := false }, kinds := [], alts := [], laidByText := true, laidKinds := [.data, .data], laidTests := true, laidLooks := .later }
def FnExactBackMarkCardSaid : Prop := Claim7.holds Tryd.pinned (.plain (OpenSpec.ofChange fnExactBackMarkSpec)) fnExactBackMarkCard

/-- THE TIED CARD OF 'laws.FnExactDoneMark'. -/
def fnExactDoneMarkCard : Claim7 := { stood := { row := fnExactDoneMarkRow, standIns := [], harness := (true, "41235cd14b333e21714be15261806bba05b2951f4fb66624a5a40b65fd1f9ddb"), looks := false }, kinds := [], alts := [], laidByText := true, laidKinds := [.data, .data], laidTests := true, laidLooks := .later }
def FnExactDoneMarkCardSaid : Prop := Claim7.holds Tryd.pinned (.plain (OpenSpec.ofChange fnExactDoneMarkSpec)) fnExactDoneMarkCard

/-- THE TIED CARD OF 'laws.FnFixed'. -/
def fnFixedCard : Claim7 := { stood := { row := fnFixedRow, standIns := [], harness := (true, "41235cd14b333e21714be15261806bba05b2951f4fb66624a5a40b65fd1f9ddb"), looks := false }, kinds := [], alts := [], laidByText := true, laidKinds := [.data, .data], laidTests := true, laidLooks := .later }
def FnFixedCardSaid : Prop := Claim7.holds Tryd.pinned (.plain (OpenSpec.ofChange fnFixedSpec)) fnFixedCard

/-- THE TIED CARD OF 'laws.FnDigests'. -/
def fnDigestsCard : Claim7 := { stood := { row := fnDigestsRow, standIns := [], harness := (true, "41235cd14b333e21714be15261806bba05b2951f4fb66624a5a40b65fd1f9ddb"), looks := false }, kinds := [], alts := [], laidByText := true, laidKinds := [.data, .data], laidTests := true, laidLooks := .later }
def FnDigestsCardSaid : Prop := Claim7.holds Tryd.pinned (.plain (OpenSpec.ofChange fnDigestsSpec)) fnDigestsCard

/-- THE TIED CARD OF 'laws.FnMarks'. -/
def fnMarksCard : Claim7 := { stood := { row := fnMarksRow, standIns := [], harness := (true, "41235cd14b333e21714be15261806bba05b2951f4fb66624a5a40b65fd1f9ddb"), looks := false }, kinds := [], alts := [], laidByText := true, laidKinds := [.data, .data], laidTests := true, laidLooks := .later }
def FnMarksCardSaid : Prop := Claim7.holds Tryd.pinned (.plain (OpenSpec.ofChange fnMarksSpec)) fnMarksCard

/-- THE SECOND FORM's CARD OF 'laws.FnExactShaStart'. -/
def fnExactShaStartUptoCard : Claim7 := { stood := { row := fnExactShaStartUptoRow, standIns := [], harness := (true, "41235cd14b333e21714be15261806bba05b2951f4fb66624a5a40b65fd1f9ddb"), looks := false }, kinds := [], alts := [], laidByText := true, laidKinds := [.data], laidTests := true, laidLooks := .later }
def FnExactShaStartUptoCardSaid : Prop := Claim7.holds Tryd.pinned (.plain (OpenSpec.upto fnExactShaStartSpec)) fnExactShaStartUptoCard

/-- THE SECOND FORM's CARD OF 'laws.FnExactDigest'. -/
def fnExactDigestUptoCard : Claim7 := { stood := { row := fnExactDigestUptoRow, standIns := [], harness := (true, "41235cd14b333e21714be15261806bba05b2951f4fb66624a5a40b65fd1f9ddb"), looks := false }, kinds := [], alts := [], laidByText := true, laidKinds := [.data, .data], laidTests := true, laidLooks := .later }
def FnExactDigestUptoCardSaid : Prop := Claim7.holds Tryd.pinned (.plain (OpenSpec.upto fnExactDigestSpec)) fnExactDigestUptoCard

/-- THE SECOND FORM's CARD OF 'laws.FnExactCutDigest'. -/
def fnExactCutDigestUptoCard : Claim7 := { stood := { row := fnExactCutDigestUptoRow, standIns := [], harness := (true, "41235cd14b333e21714be15261806bba05b2951f4fb66624a5a40b65fd1f9ddb"), looks := false }, kinds := [], alts := [], laidByText := true, laidKinds := [.data, .data], laidTests := true, laidLooks := .later }
def FnExactCutDigestUptoCardSaid : Prop := Claim7.holds Tryd.pinned (.plain (OpenSpec.upto fnExactCutDigestSpec)) fnExactCutDigestUptoCard

/-- THE SECOND FORM's CARD OF 'laws.FnExactStartOf'. -/
def fnExactStartOfUptoCard : Claim7 := { stood := { row := fnExactStartOfUptoRow, standIns := [], harness := (true, "41235cd14b333e21714be15261806bba05b2951f4fb66624a5a40b65fd1f9ddb"), looks := false }, kinds := [], alts := [], laidByText := true, laidKinds := [.data, .data], laidTests := true, laidLooks := .later }
def FnExactStartOfUptoCardSaid : Prop := Claim7.holds Tryd.pinned (.plain (OpenSpec.upto fnExactStartOfSpec)) fnExactStartOfUptoCard

/-- THE SECOND FORM's CARD OF 'laws.FnExactHmacKey'. -/
def fnExactHmacKeyUptoCard : Claim7 := { stood := { row := fnExactHmacKeyUptoRow, standIns := [], harness := (true, "41235cd14b333e21714be15261806bba05b2951f4fb66624a5a40b65fd1f9ddb"), looks := false }, kinds := [], alts := [], laidByText := true, laidKinds := [.data, .data], laidTests := true, laidLooks := .later }
def FnExactHmacKeyUptoCardSaid : Prop := Claim7.holds Tryd.pinned (.plain (OpenSpec.upto fnExactHmacKeySpec)) fnExactHmacKeyUptoCard

/-- THE SECOND FORM's CARD OF 'laws.FnExactShaBlock'. -/
def fnExactShaBlockUptoCard : Claim7 := { stood := { row := fnExactShaBlockUptoRow, standIns := [], harness := (true, "41235cd14b333e21714be15261806bba05b2951f4fb66624a5a40b65fd1f9ddb"), looks := false }, kinds := [], alts := [], laidByText := true, laidKinds := [.data], laidTests := true, laidLooks := .later }
def FnExactShaBlockUptoCardSaid : Prop := Claim7.holds Tryd.pinned (.plain (OpenSpec.upto fnExactShaBlockSpec)) fnExactShaBlockUptoCard

/-- THE SECOND FORM's CARD OF 'laws.FnExactDigestHex'. -/
def fnExactDigestHexUptoCard : Claim7 := { stood := { row := fnExactDigestHexUptoRow, standIns := [], harness := (true, "41235cd14b333e21714be15261806bba05b2951f4fb66624a5a40b65fd1f9ddb"), looks := false }, kinds := [], alts := [], laidByText := true, laidKinds := [.data, .data], laidTests := true, laidLooks := .later }
def FnExactDigestHexUptoCardSaid : Prop := Claim7.holds Tryd.pinned (.plain (OpenSpec.upto fnExactDigestHexSpec)) fnExactDigestHexUptoCard

/-- THE SECOND FORM's CARD OF 'laws.FnExactHmac'. -/
def fnExactHmacUptoCard : Claim7 := { stood := { row := fnExactHmacUptoRow, standIns := [], harness := (true, "41235cd14b333e21714be15261806bba05b2951f4fb66624a5a40b65fd1f9ddb"), looks := false }, kinds := [], alts := [], laidByText := true, laidKinds := [.data, .data], laidTests := true, laidLooks := .later }
def FnExactHmacUptoCardSaid : Prop := Claim7.holds Tryd.pinned (.plain (OpenSpec.upto fnExactHmacSpec)) fnExactHmacUptoCard

/-- THE SECOND FORM's CARD OF 'laws.FnExactHmacOk'. -/
def fnExactHmacOkUptoCard : Claim7 := { stood := { row := fnExactHmacOkUptoRow, standIns := [], harness := (true, "41235cd14b333e21714be15261806bba05b2951f4fb66624a5a40b65fd1f9ddb"), looks := false }, kinds := [], alts := [], laidByText := true, laidKinds := [.data, .data], laidTests := true, laidLooks := .later }
def FnExactHmacOkUptoCardSaid : Prop := Claim7.holds Tryd.pinned (.plain (OpenSpec.upto fnExactHmacOkSpec)) fnExactHmacOkUptoCard

/-- THE SECOND FORM's CARD OF 'laws.FnExactTokenOf'. -/
def fnExactTokenOfUptoCard : Claim7 := { stood := { row := fnExactTokenOfUptoRow, standIns := [], harness := (true, "41235cd14b333e21714be15261806bba05b2951f4fb66624a5a40b65fd1f9ddb"), looks := false }, kinds := [], alts := [], laidByText := true, laidKinds := [.data, .data], laidTests := true, laidLooks := .later }
def FnExactTokenOfUptoCardSaid : Prop := Claim7.holds Tryd.pinned (.plain (OpenSpec.upto fnExactTokenOfSpec)) fnExactTokenOfUptoCard

/-- THE SECOND FORM's CARD OF 'laws.FnExactCutMark'. -/
def fnExactCutMarkUptoCard : Claim7 := { stood := { row := fnExactCutMarkUptoRow, standIns := [], harness := (true, "41235cd14b333e21714be15261806bba05b2951f4fb66624a5a40b65fd1f9ddb"), looks := false }, kinds := [], alts := [], laidByText := true, laidKinds := [.data, .data], laidTests := true, laidLooks := .later }
def FnExactCutMarkUptoCardSaid : Prop := Claim7.holds Tryd.pinned (.plain (OpenSpec.upto fnExactCutMarkSpec)) fnExactCutMarkUptoCard

/-- THE SECOND FORM's CARD OF 'laws.FnExactJoinMark'. -/
def fnExactJoinMarkUptoCard : Claim7 := { stood := { row := fnExactJoinMarkUptoRow, standIns := [], harness := (true, "41235cd14b333e21714be15261806bba05b2951f4fb66624a5a40b65fd1f9ddb"), looks := false }, kinds := [], alts := [], laidByText := true, laidKinds := [.data, .data], laidTests := true, laidLooks := .later }
def FnExactJoinMarkUptoCardSaid : Prop := Claim7.holds Tryd.pinned (.plain (OpenSpec.upto fnExactJoinMarkSpec)) fnExactJoinMarkUptoCard

/-- THE SECOND FORM's CARD OF 'laws.FnExactAddrMark'. -/
def fnExactAddrMarkUptoCard : Claim7 := { stood := { row := fnExactAddrMarkUptoRow, standIns := [], harness := (true, "41235cd14b333e21714be15261806bba05b2951f4fb66624a5a40b65fd1f9ddb"), looks := false }, kinds := [], alts := [], laidByText := true, laidKinds := [.data, .data], laidTests := true, laidLooks := .later }
def FnExactAddrMarkUptoCardSaid : Prop := Claim7.holds Tryd.pinned (.plain (OpenSpec.upto fnExactAddrMarkSpec)) fnExactAddrMarkUptoCard

/-- THE SECOND FORM's CARD OF 'laws.FnExactBackMark'. -/
def fnExactBackMarkUptoCard : Claim7 := { stood := { row := fnExactBackMarkUptoRow, standIns := [], harness := (true, "41235cd14b333e21714be15261806bba05b2951f4fb66624a5a40b65fd1f9ddb"), looks := false }, kinds := [], alts := [], laidByText := true, laidKinds := [.data, .data], laidTests := true, laidLooks := .later }
def FnExactBackMarkUptoCardSaid : Prop := Claim7.holds Tryd.pinned (.plain (OpenSpec.upto fnExactBackMarkSpec)) fnExactBackMarkUptoCard

/-- THE SECOND FORM's CARD OF 'laws.FnExactDoneMark'. -/
def fnExactDoneMarkUptoCard : Claim7 := { stood := { row := fnExactDoneMarkUptoRow, standIns := [], harness := (true, "41235cd14b333e21714be15261806bba05b2951f4fb66624a5a40b65fd1f9ddb"), looks := false }, kinds := [], alts := [], laidByText := true, laidKinds := [.data, .data], laidTests := true, laidLooks := .later }
def FnExactDoneMarkUptoCardSaid : Prop := Claim7.holds Tryd.pinned (.plain (OpenSpec.upto fnExactDoneMarkSpec)) fnExactDoneMarkUptoCard

/-- THE SECOND FORM's CARD OF 'laws.FnFixed'. -/
def fnFixedUptoCard : Claim7 := { stood := { row := fnFixedUptoRow, standIns := [], harness := (true, "41235cd14b333e21714be15261806bba05b2951f4fb66624a5a40b65fd1f9ddb"), looks := false }, kinds := [], alts := [], laidByText := true, laidKinds := [.data, .data], laidTests := true, laidLooks := .later }
def FnFixedUptoCardSaid : Prop := Claim7.holds Tryd.pinned (.plain (OpenSpec.upto fnFixedSpec)) fnFixedUptoCard

/-- THE SECOND FORM's CARD OF 'laws.FnDigests'. -/
def fnDigestsUptoCard : Claim7 := { stood := { row := fnDigestsUptoRow, standIns := [], harness := (true, "41235cd14b333e21714be15261806bba05b2951f4fb66624a5a40b65fd1f9ddb"), looks := false }, kinds := [], alts := [], laidByText := true, laidKinds := [.data, .data], laidTests := true, laidLooks := .later }
def FnDigestsUptoCardSaid : Prop := Claim7.holds Tryd.pinned (.plain (OpenSpec.upto fnDigestsSpec)) fnDigestsUptoCard

/-- THE SECOND FORM's CARD OF 'laws.FnMarks'. -/
def fnMarksUptoCard : Claim7 := { stood := { row := fnMarksUptoRow, standIns := [], harness := (true, "41235cd14b333e21714be15261806bba05b2951f4fb66624a5a40b65fd1f9ddb"), looks := false }, kinds := [], alts := [], laidByText := true, laidKinds := [.data, .data], laidTests := true, laidLooks := .later }
def FnMarksUptoCardSaid : Prop := Claim7.holds Tryd.pinned (.plain (OpenSpec.upto fnMarksSpec)) fnMarksUptoCard
end Rows
end Go.Proofs.YtmhekefjlepfpaaDoor
