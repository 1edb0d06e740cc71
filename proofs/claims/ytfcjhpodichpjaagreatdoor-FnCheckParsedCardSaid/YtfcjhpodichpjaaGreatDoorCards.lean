/-
  DERIVED. GIVEN WITH THE SEED: THE CARDS: each row of YtfcjhpodichpjaaGreatDoorRows.lean that lists a variable, with what it lists TIED to the program's text (the seventh form; the later family's looks); each row that meets fmt, with fmt's text TOLD by the authors' own Lean function (tested against real Go, not proved from fmt's source: count such statements apart). THE CARD IS WHAT COUNTS. Prove the row's statement (the work); the ties are given (YtfcjhpodichpjaaGreatDoorTie.lean); close each card by the builder's one call (the guide's Derived/Test/ToyasCard.lean, 'card_holds'). Laid BY PROGRAM, IN A SANDBOX (cutbox-door.mjs). By AI agents, Wed Nov 11 2026. No macro, syntax, notation, axiom, sorry.
-/
import Derived.Test.YtfcjhpodichpjaaGreatDoorRows
import GoSem.ClaimSeven
namespace Go.Proofs.YtfcjhpodichpjaaGreatDoor
namespace Rows

/-- THE TIED CARD OF 'laws.FnCertificateText'. -/
def fnCertificateTextCard : Claim7 := { stood := { row := fnCertificateTextRow, standIns := [], harness := (true, "4d14b9cc3685e65b5479827519d1f84885a2aea983a2a27a6ca3cde44893750c"), looks := true }, kinds := [], alts := [], laidByText := true, laidKinds := [.data, .data, .data, .data, .sentinel, .sentinel, .pinned], laidTests := true, laidLooks := .later }
def FnCertificateTextCardSaid : Prop := Claim7.holds Tryz.pinned (.plain (OpenSpec.ofChange fnCertificateTextSpec)) fnCertificateTextCard

/-- THE TIED CARD OF 'laws.FnCheckParsed'. -/
def fnCheckParsedCard : Claim7 := { stood := { row := fnCheckParsedRow, standIns := [], harness := (true, "4d14b9cc3685e65b5479827519d1f84885a2aea983a2a27a6ca3cde44893750c"), looks := true }, kinds := [], alts := [], laidByText := true, laidKinds := [.data, .data, .data, .data, .sentinel, .sentinel, .pinned], laidTests := true, laidLooks := .later }
def FnCheckParsedCardSaid : Prop := Claim7.holds Tryz.pinned (.plain (OpenSpec.ofChange fnCheckParsedSpec)) fnCheckParsedCard

/-- THE TIED CARD OF 'laws.FnExactParseCertificate'. -/
def fnExactParseCertificateCard : Claim7 := { stood := { row := fnExactParseCertificateRow, standIns := [], harness := (true, "4d14b9cc3685e65b5479827519d1f84885a2aea983a2a27a6ca3cde44893750c"), looks := true }, kinds := [], alts := [], laidByText := true, laidKinds := [.data, .data, .data, .data, .sentinel, .sentinel, .pinned], laidTests := true, laidLooks := .later }
def FnExactParseCertificateCardSaid : Prop := Claim7.holds Tryz.pinned (.plain (OpenSpec.ofChange fnExactParseCertificateSpec)) fnExactParseCertificateCard

/-- THE SECOND FORM's CARD OF 'laws.FnCertificateText'. -/
def fnCertificateTextUptoCard : Claim7 := { stood := { row := fnCertificateTextUptoRow, standIns := [], harness := (true, "4d14b9cc3685e65b5479827519d1f84885a2aea983a2a27a6ca3cde44893750c"), looks := true }, kinds := [], alts := [], laidByText := true, laidKinds := [.data, .data, .data, .data, .sentinel, .sentinel, .pinned], laidTests := true, laidLooks := .later }
def FnCertificateTextUptoCardSaid : Prop := Claim7.holds Tryz.pinned (.plain (OpenSpec.upto fnCertificateTextSpec)) fnCertificateTextUptoCard

/-- THE SECOND FORM's CARD OF 'laws.FnCheckParsed'. -/
def fnCheckParsedUptoCard : Claim7 := { stood := { row := fnCheckParsedUptoRow, standIns := [], harness := (true, "4d14b9cc3685e65b5479827519d1f84885a2aea983a2a27a6ca3cde44893750c"), looks := true }, kinds := [], alts := [], laidByText := true, laidKinds := [.data, .data, .data, .data, .sentinel, .sentinel, .pinned], laidTests := true, laidLooks := .later }
def FnCheckParsedUptoCardSaid : Prop := Claim7.holds Tryz.pinned (.plain (OpenSpec.upto fnCheckParsedSpec)) fnCheckParsedUptoCard

/-- THE SECOND FORM's CARD OF 'laws.FnExactParseCertificate'. -/
def fnExactParseCertificateUptoCard : Claim7 := { stood := { row := fnExactParseCertificateUptoRow, standIns := [], harness := (true, "4d14b9cc3685e65b5479827519d1f84885a2aea983a2a27a6ca3cde44893750c"), looks := true }, kinds := [], alts := [], laidByText := true, laidKinds := [.data, .data, .data, .data, .sentinel, .sentinel, .pinned], laidTests := true, laidLooks := .later }
def FnExactParseCertificateUptoCardSaid : Prop := Claim7.holds Tryz.pinned (.plain (OpenSpec.upto fnExactParseCertificateSpec)) fnExactParseCertificateUptoCard
end Rows
end Go.Proofs.YtfcjhpodichpjaaGreatDoor
