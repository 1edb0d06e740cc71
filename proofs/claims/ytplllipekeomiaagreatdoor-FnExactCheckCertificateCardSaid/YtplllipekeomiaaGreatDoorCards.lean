/-
  DERIVED. GIVEN WITH THE SEED: THE CARDS: each row of YtplllipekeomiaaGreatDoorRows.lean that lists a variable, with what it lists TIED to the program's text (the seventh form; the later family's looks); each row that meets fmt, with fmt's text TOLD by the authors' own Lean function (tested against real Go, not proved from fmt's source: count such statements apart). THE CARD IS WHAT COUNTS. Prove the row's statement (the work); the ties are given (YtplllipekeomiaaGreatDoorTie.lean); close each card by the builder's one call (the guide's Derived/Test/ToyasCard.lean, 'card_holds'). Laid BY PROGRAM, IN A SANDBOX (cutbox-door.mjs). By AI agents, Wed Nov 11 2026. No macro, syntax, notation, axiom, sorry.
-/
import Derived.Test.YtplllipekeomiaaGreatDoorRows
import GoSem.ClaimSeven
namespace Go.Proofs.YtplllipekeomiaaGreatDoor
namespace Rows

/-- THE TIED CARD OF 'laws.FnExactChainFault'. -/
def fnExactChainFaultCard : Claim7 := { stood := { row := fnExactChainFaultRow, standIns := [], harness := (true, "c974e8cd3277e74778e617b9972c3b002629419ac3407f299126f81771d831d8"), looks := false }, kinds := [], alts := [], laidByText := true, laidKinds := [.data, .data], laidTests := true, laidLooks := .later }
def FnExactChainFaultCardSaid : Prop := Claim7.holds Tryz.pinned (.plain (OpenSpec.ofChange fnExactChainFaultSpec)) fnExactChainFaultCard

/-- THE TIED CARD OF 'laws.FnExactCheckCertificate'. -/
def fnExactCheckCertificateCard : Claim7 := { stood := { row := fnExactCheckCertificateRow, standIns := [], harness := (true, "c974e8cd3277e74778e617b9972c3b002629419ac3407f299126f81771d831d8"), looks := false }, kinds := [], alts := [], laidByText := true, laidKinds := [.data, .data], laidTests := true, laidLooks := .later }
def FnExactCheckCertificateCardSaid : Prop := Claim7.holds Tryz.pinned (.plain (OpenSpec.ofChange fnExactCheckCertificateSpec)) fnExactCheckCertificateCard

/-- THE SECOND FORM's CARD OF 'laws.FnExactChainFault'. -/
def fnExactChainFaultUptoCard : Claim7 := { stood := { row := fnExactChainFaultUptoRow, standIns := [], harness := (true, "c974e8cd3277e74778e617b9972c3b002629419ac3407f299126f81771d831d8"), looks := false }, kinds := [], alts := [], laidByText := true, laidKinds := [.data, .data], laidTests := true, laidLooks := .later }
def FnExactChainFaultUptoCardSaid : Prop := Claim7.holds Tryz.pinned (.plain (OpenSpec.upto fnExactChainFaultSpec)) fnExactChainFaultUptoCard

/-- THE SECOND FORM's CARD OF 'laws.FnExactCheckCertificate'. -/
def fnExactCheckCertificateUptoCard : Claim7 := { stood := { row := fnExactCheckCertificateUptoRow, standIns := [], harness := (true, "c974e8cd3277e74778e617b9972c3b002629419ac3407f299126f81771d831d8"), looks := false }, kinds := [], alts := [], laidByText := true, laidKinds := [.data, .data], laidTests := true, laidLooks := .later }
def FnExactCheckCertificateUptoCardSaid : Prop := Claim7.holds Tryz.pinned (.plain (OpenSpec.upto fnExactCheckCertificateSpec)) fnExactCheckCertificateUptoCard
end Rows
end Go.Proofs.YtplllipekeomiaaGreatDoor
