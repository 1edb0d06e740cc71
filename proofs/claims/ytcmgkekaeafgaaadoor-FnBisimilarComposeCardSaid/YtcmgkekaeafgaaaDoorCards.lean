/-
  DERIVED. GIVEN WITH THE SEED: THE CARDS: each row of YtcmgkekaeafgaaaDoorRows.lean that lists a variable, with what it lists TIED to the program's text (the seventh form; the later family's looks); each row that meets fmt, with fmt's text TOLD by the authors' own Lean function (tested against real Go, not proved from fmt's source: count such statements apart). THE CARD IS WHAT COUNTS. Prove the row's statement (the work); the ties are given (YtcmgkekaeafgaaaDoorTie.lean); close each card by the builder's one call (the guide's Derived/Test/ToyasCard.lean, 'card_holds'). Laid BY PROGRAM, IN A SANDBOX (cutbox-door.mjs). By AI agents, Wed Nov 11 2026. No macro, syntax, notation, axiom, sorry.
-/
import Derived.Test.YtcmgkekaeafgaaaDoorRows
import GoSem.ClaimSeven
namespace Go.Proofs.YtcmgkekaeafgaaaDoor
namespace Rows

/-- THE TIED CARD OF 'laws.FnSimulatesKeeps'. -/
def fnSimulatesKeepsCard : Claim7 := { stood := { row := fnSimulatesKeepsRow, standIns := [], harness := (true, "cbed59bcc033b55ef8eb8d01e839ea315041a6fb81c44c0ec04aa8d163be3320"), looks := false }, kinds := [], alts := [], laidByText := true, laidKinds := [.data, .data], laidTests := true, laidLooks := .later }
def FnSimulatesKeepsCardSaid : Prop := Claim7.holds Tryd.pinned (.plain (OpenSpec.ofChange fnSimulatesKeepsSpec)) fnSimulatesKeepsCard

/-- THE TIED CARD OF 'laws.FnBisimilarCompose'. -/
def fnBisimilarComposeCard : Claim7 := { stood := { row := fnBisimilarComposeRow, standIns := [], harness := (true, "cbed59bcc033b55ef8eb8d01e839ea315041a6fb81c44c0ec04aa8d163be3320"), looks := false }, kinds := [], alts := [], laidByText := true, laidKinds := [.data, .data], laidTests := true, laidLooks := .later }
def FnBisimilarComposeCardSaid : Prop := Claim7.holds Tryd.pinned (.plain (OpenSpec.ofChange fnBisimilarComposeSpec)) fnBisimilarComposeCard

/-- THE SECOND FORM's CARD OF 'laws.FnSimulatesKeeps'. -/
def fnSimulatesKeepsUptoCard : Claim7 := { stood := { row := fnSimulatesKeepsUptoRow, standIns := [], harness := (true, "cbed59bcc033b55ef8eb8d01e839ea315041a6fb81c44c0ec04aa8d163be3320"), looks := false }, kinds := [], alts := [], laidByText := true, laidKinds := [.data, .data], laidTests := true, laidLooks := .later }
def FnSimulatesKeepsUptoCardSaid : Prop := Claim7.holds Tryd.pinned (.plain (OpenSpec.upto fnSimulatesKeepsSpec)) fnSimulatesKeepsUptoCard

/-- THE SECOND FORM's CARD OF 'laws.FnBisimilarCompose'. -/
def fnBisimilarComposeUptoCard : Claim7 := { stood := { row := fnBisimilarComposeUptoRow, standIns := [], harness := (true, "cbed59bcc033b55ef8eb8d01e839ea315041a6fb81c44c0ec04aa8d163be3320"), looks := false }, kinds := [], alts := [], laidByText := true, laidKinds := [.data, .data], laidTests := true, laidLooks := .later }
def FnBisimilarComposeUptoCardSaid : Prop := Claim7.holds Tryd.pinned (.plain (OpenSpec.upto fnBisimilarComposeSpec)) fnBisimilarComposeUptoCard
end Rows
end Go.Proofs.YtcmgkekaeafgaaaDoor
