/-
  DERIVED. GIVEN WITH THE SEED: THE CARDS: each row of YtfcjhpodichpjaaDoorRows.lean that lists a variable, with what it lists TIED to the program's text (the seventh form; the later family's looks); each row that meets fmt, with fmt's text TOLD by the authors' own Lean function (tested against real Go, not proved from fmt's source: count such statements apart). THE CARD IS WHAT COUNTS. Prove the row's statement (the work); the ties are given (YtfcjhpodichpjaaDoorTie.lean); close each card by the builder's one call (the guide's Derived/Test/ToyasCard.lean, 'card_holds'). Laid BY PROGRAM, IN A SANDBOX (cutbox-door.mjs). By AI agents, Wed Nov 11 2026. No macro, syntax, notation, axiom, sorry.
-/
import Derived.Test.YtfcjhpodichpjaaDoorRows
import GoSem.ClaimSeven
namespace Go.Proofs.YtfcjhpodichpjaaDoor
namespace Rows

/-- THE TIED CARD OF 'laws.FnExactFormatCertificate'. -/
def fnExactFormatCertificateCard : Claim7 := { stood := { row := fnExactFormatCertificateRow, standIns := [], harness := (true, "a25f9de0bd099242908f275e3ef0e0e504a0f11154fe618235bdf65dc9a5e356"), looks := false }, kinds := [], alts := [], laidByText := true, laidKinds := [.data, .data, .data], laidTests := true, laidLooks := .later }
def FnExactFormatCertificateCardSaid : Prop := Claim7.holds Tryd.pinned (.plain (OpenSpec.ofChange fnExactFormatCertificateSpec)) fnExactFormatCertificateCard

/-- THE TIED CARD OF 'laws.FnSimulatesKeeps'. -/
def fnSimulatesKeepsCard : Claim7 := { stood := { row := fnSimulatesKeepsRow, standIns := [], harness := (true, "a25f9de0bd099242908f275e3ef0e0e504a0f11154fe618235bdf65dc9a5e356"), looks := false }, kinds := [], alts := [], laidByText := true, laidKinds := [.data, .data], laidTests := true, laidLooks := .later }
def FnSimulatesKeepsCardSaid : Prop := Claim7.holds Tryd.pinned (.plain (OpenSpec.ofChange fnSimulatesKeepsSpec)) fnSimulatesKeepsCard

/-- THE SECOND FORM's CARD OF 'laws.FnExactFormatCertificate'. -/
def fnExactFormatCertificateUptoCard : Claim7 := { stood := { row := fnExactFormatCertificateUptoRow, standIns := [], harness := (true, "a25f9de0bd099242908f275e3ef0e0e504a0f11154fe618235bdf65dc9a5e356"), looks := false }, kinds := [], alts := [], laidByText := true, laidKinds := [.data, .data, .data], laidTests := true, laidLooks := .later }
def FnExactFormatCertificateUptoCardSaid : Prop := Claim7.holds Tryd.pinned (.plain (OpenSpec.upto fnExactFormatCertificateSpec)) fnExactFormatCertificateUptoCard

/-- THE SECOND FORM's CARD OF 'laws.FnSimulatesKeeps'. -/
def fnSimulatesKeepsUptoCard : Claim7 := { stood := { row := fnSimulatesKeepsUptoRow, standIns := [], harness := (true, "a25f9de0bd099242908f275e3ef0e0e504a0f11154fe618235bdf65dc9a5e356"), looks := false }, kinds := [], alts := [], laidByText := true, laidKinds := [.data, .data], laidTests := true, laidLooks := .later }
def FnSimulatesKeepsUptoCardSaid : Prop := Claim7.holds Tryd.pinned (.plain (OpenSpec.upto fnSimulatesKeepsSpec)) fnSimulatesKeepsUptoCard
end Rows
end Go.Proofs.YtfcjhpodichpjaaDoor
