/-
  DERIVED. GIVEN WITH THE SEED: THE CARDS: each row of YtbifoikcmjmdeaaDoorRows.lean that lists a variable, with what it lists TIED to the program's text (the seventh form; the later family's looks); each row that meets fmt, with fmt's text TOLD by the authors' own Lean function (tested against real Go, not proved from fmt's source: count such statements apart). THE CARD IS WHAT COUNTS. Prove the row's statement (the work); the ties are given (YtbifoikcmjmdeaaDoorTie.lean); close each card by the builder's one call (the guide's Derived/Test/ToyasCard.lean, 'card_holds'). Laid BY PROGRAM, IN A SANDBOX (cutbox-door.mjs). By AI agents, Wed Nov 11 2026. No macro, syntax, notation, axiom, sorry.
-/
import Derived.Test.YtbifoikcmjmdeaaDoorRows
import GoSem.ClaimSeven
namespace Go.Proofs.YtbifoikcmjmdeaaDoor
namespace Rows

/-- THE TIED CARD OF 'laws.FnSimulatesTrim'. -/
def fnSimulatesTrimCard : Claim7 := { stood := { row := fnSimulatesTrimRow, standIns := [], harness := (true, "b7498057fc21cc53e98e0458d77c3b13a33459d4a96217ee2d73919a2ca788fe"), looks := false }, kinds := [], alts := [], laidByText := true, laidKinds := [.data, .data], laidTests := true, laidLooks := .later }
def FnSimulatesTrimCardSaid : Prop := Claim7.holds Tryd.pinned (.plain (OpenSpec.ofChange fnSimulatesTrimSpec)) fnSimulatesTrimCard

/-- THE TIED CARD OF 'laws.FnBisimilar'. -/
def fnBisimilarCard : Claim7 := { stood := { row := fnBisimilarRow, standIns := [], harness := (true, "b7498057fc21cc53e98e0458d77c3b13a33459d4a96217ee2d73919a2ca788fe"), looks := false }, kinds := [], alts := [], laidByText := true, laidKinds := [.data, .data], laidTests := true, laidLooks := .later }
def FnBisimilarCardSaid : Prop := Claim7.holds Tryd.pinned (.plain (OpenSpec.ofChange fnBisimilarSpec)) fnBisimilarCard

/-- THE TIED CARD OF 'laws.FnSimulates'. -/
def fnSimulatesCard : Claim7 := { stood := { row := fnSimulatesRow, standIns := [], harness := (true, "b7498057fc21cc53e98e0458d77c3b13a33459d4a96217ee2d73919a2ca788fe"), looks := false }, kinds := [], alts := [], laidByText := true, laidKinds := [.data, .data], laidTests := true, laidLooks := .later }
def FnSimulatesCardSaid : Prop := Claim7.holds Tryd.pinned (.plain (OpenSpec.ofChange fnSimulatesSpec)) fnSimulatesCard

/-- THE TIED CARD OF 'laws.FnSimulatesDeterministic'. -/
def fnSimulatesDeterministicCard : Claim7 := { stood := { row := fnSimulatesDeterministicRow, standIns := [], harness := (true, "b7498057fc21cc53e98e0458d77c3b13a33459d4a96217ee2d73919a2ca788fe"), looks := false }, kinds := [], alts := [], laidByText := true, laidKinds := [.data, .data], laidTests := true, laidLooks := .later }
def FnSimulatesDeterministicCardSaid : Prop := Claim7.holds Tryd.pinned (.plain (OpenSpec.ofChange fnSimulatesDeterministicSpec)) fnSimulatesDeterministicCard

/-- THE TIED CARD OF 'laws.FnBisimilarDeterministic'. -/
def fnBisimilarDeterministicCard : Claim7 := { stood := { row := fnBisimilarDeterministicRow, standIns := [], harness := (true, "b7498057fc21cc53e98e0458d77c3b13a33459d4a96217ee2d73919a2ca788fe"), looks := false }, kinds := [], alts := [], laidByText := true, laidKinds := [.data, .data], laidTests := true, laidLooks := .later }
def FnBisimilarDeterministicCardSaid : Prop := Claim7.holds Tryd.pinned (.plain (OpenSpec.ofChange fnBisimilarDeterministicSpec)) fnBisimilarDeterministicCard

/-- THE TIED CARD OF 'laws.FnBisimilarDeadlock'. -/
def fnBisimilarDeadlockCard : Claim7 := { stood := { row := fnBisimilarDeadlockRow, standIns := [], harness := (true, "b7498057fc21cc53e98e0458d77c3b13a33459d4a96217ee2d73919a2ca788fe"), looks := false }, kinds := [], alts := [], laidByText := true, laidKinds := [.data, .data], laidTests := true, laidLooks := .later }
def FnBisimilarDeadlockCardSaid : Prop := Claim7.holds Tryd.pinned (.plain (OpenSpec.ofChange fnBisimilarDeadlockSpec)) fnBisimilarDeadlockCard

/-- THE SECOND FORM's CARD OF 'laws.FnSimulatesTrim'. -/
def fnSimulatesTrimUptoCard : Claim7 := { stood := { row := fnSimulatesTrimUptoRow, standIns := [], harness := (true, "b7498057fc21cc53e98e0458d77c3b13a33459d4a96217ee2d73919a2ca788fe"), looks := false }, kinds := [], alts := [], laidByText := true, laidKinds := [.data, .data], laidTests := true, laidLooks := .later }
def FnSimulatesTrimUptoCardSaid : Prop := Claim7.holds Tryd.pinned (.plain (OpenSpec.upto fnSimulatesTrimSpec)) fnSimulatesTrimUptoCard

/-- THE SECOND FORM's CARD OF 'laws.FnBisimilar'. -/
def fnBisimilarUptoCard : Claim7 := { stood := { row := fnBisimilarUptoRow, standIns := [], harness := (true, "b7498057fc21cc53e98e0458d77c3b13a33459d4a96217ee2d73919a2ca788fe"), looks := false }, kinds := [], alts := [], laidByText := true, laidKinds := [.data, .data], laidTests := true, laidLooks := .later }
def FnBisimilarUptoCardSaid : Prop := Claim7.holds Tryd.pinned (.plain (OpenSpec.upto fnBisimilarSpec)) fnBisimilarUptoCard

/-- THE SECOND FORM's CARD OF 'laws.FnSimulates'. -/
def fnSimulatesUptoCard : Claim7 := { stood := { row := fnSimulatesUptoRow, standIns := [], harness := (true, "b7498057fc21cc53e98e0458d77c3b13a33459d4a96217ee2d73919a2ca788fe"), looks := false }, kinds := [], alts := [], laidByText := true, laidKinds := [.data, .data], laidTests := true, laidLooks := .later }
def FnSimulatesUptoCardSaid : Prop := Claim7.holds Tryd.pinned (.plain (OpenSpec.upto fnSimulatesSpec)) fnSimulatesUptoCard

/-- THE SECOND FORM's CARD OF 'laws.FnSimulatesDeterministic'. -/
def fnSimulatesDeterministicUptoCard : Claim7 := { stood := { row := fnSimulatesDeterministicUptoRow, standIns := [], harness := (true, "b7498057fc21cc53e98e0458d77c3b13a33459d4a96217ee2d73919a2ca788fe"), looks := false }, kinds := [], alts := [], laidByText := true, laidKinds := [.data, .data], laidTests := true, laidLooks := .later }
def FnSimulatesDeterministicUptoCardSaid : Prop := Claim7.holds Tryd.pinned (.plain (OpenSpec.upto fnSimulatesDeterministicSpec)) fnSimulatesDeterministicUptoCard

/-- THE SECOND FORM's CARD OF 'laws.FnBisimilarDeterministic'. -/
def fnBisimilarDeterministicUptoCard : Claim7 := { stood := { row := fnBisimilarDeterministicUptoRow, standIns := [], harness := (true, "b7498057fc21cc53e98e0458d77c3b13a33459d4a96217ee2d73919a2ca788fe"), looks := false }, kinds := [], alts := [], laidByText := true, laidKinds := [.data, .data], laidTests := true, laidLooks := .later }
def FnBisimilarDeterministicUptoCardSaid : Prop := Claim7.holds Tryd.pinned (.plain (OpenSpec.upto fnBisimilarDeterministicSpec)) fnBisimilarDeterministicUptoCard

/-- THE SECOND FORM's CARD OF 'laws.FnBisimilarDeadlock'. -/
def fnBisimilarDeadlockUptoCard : Claim7 := { stood := { row := fnBisimilarDeadlockUptoRow, standIns := [], harness := (true, "b7498057fc21cc53e98e0458d77c3b13a33459d4a96217ee2d73919a2ca788fe"), looks := false }, kinds := [], alts := [], laidByText := true, laidKinds := [.data, .data], laidTests := true, laidLooks := .later }
def FnBisimilarDeadlockUptoCardSaid : Prop := Claim7.holds Tryd.pinned (.plain (OpenSpec.upto fnBisimilarDeadlockSpec)) fnBisimilarDeadlockUptoCard
end Rows
end Go.Proofs.YtbifoikcmjmdeaaDoor
