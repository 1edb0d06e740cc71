/-
  DERIVED. GIVEN WITH THE SEED: THE CARDS: each row of YtddecgjkmdaobaaDoorRows.lean that lists a variable, with what it lists TIED to the program's text (the seventh form; the later family's looks); each row that meets fmt, with fmt's text TOLD by the authors' own Lean function (tested against real Go, not proved from fmt's source: count such statements apart). THE CARD IS WHAT COUNTS. Prove the row's statement (the work); the ties are given (YtddecgjkmdaobaaDoorTie.lean); close each card by the builder's one call (the guide's Derived/Test/ToyasCard.lean, 'card_holds'). Laid BY PROGRAM, IN A SANDBOX (cutbox-door.mjs). By AI agents, Wed Nov 11 2026. No macro, syntax, notation, axiom, sorry.
-/
import Derived.Test.YtddecgjkmdaobaaDoorRows
import GoSem.ClaimSeven
namespace Go.Proofs.YtddecgjkmdaobaaDoor
namespace Rows

/-- THE TIED CARD OF 'laws.FnBisimClasses'. -/
def fnBisimClassesCard : Claim7 := { stood := { row := fnBisimClassesRow, standIns := [], harness := (true, "d5e78bad77d8cfd05db1085ae222f981792139a680464106016c3dbfdde16930"), looks := false }, kinds := [], alts := [], laidByText := true, laidKinds := [.data, .data], laidTests := true, laidLooks := .later }
def FnBisimClassesCardSaid : Prop := Claim7.holds Tryd.pinned (.plain (OpenSpec.ofChange fnBisimClassesSpec)) fnBisimClassesCard

/-- THE TIED CARD OF 'laws.FnBisimOrder'. -/
def fnBisimOrderCard : Claim7 := { stood := { row := fnBisimOrderRow, standIns := [], harness := (true, "d5e78bad77d8cfd05db1085ae222f981792139a680464106016c3dbfdde16930"), looks := false }, kinds := [], alts := [], laidByText := true, laidKinds := [.data, .data], laidTests := true, laidLooks := .later }
def FnBisimOrderCardSaid : Prop := Claim7.holds Tryd.pinned (.plain (OpenSpec.ofChange fnBisimOrderSpec)) fnBisimOrderCard

/-- THE TIED CARD OF 'laws.FnSimulatesDrop'. -/
def fnSimulatesDropCard : Claim7 := { stood := { row := fnSimulatesDropRow, standIns := [], harness := (true, "d5e78bad77d8cfd05db1085ae222f981792139a680464106016c3dbfdde16930"), looks := false }, kinds := [], alts := [], laidByText := true, laidKinds := [.data, .data], laidTests := true, laidLooks := .later }
def FnSimulatesDropCardSaid : Prop := Claim7.holds Tryd.pinned (.plain (OpenSpec.ofChange fnSimulatesDropSpec)) fnSimulatesDropCard

/-- THE TIED CARD OF 'laws.FnSimilarSelf'. -/
def fnSimilarSelfCard : Claim7 := { stood := { row := fnSimilarSelfRow, standIns := [], harness := (true, "d5e78bad77d8cfd05db1085ae222f981792139a680464106016c3dbfdde16930"), looks := false }, kinds := [], alts := [], laidByText := true, laidKinds := [.data, .data], laidTests := true, laidLooks := .later }
def FnSimilarSelfCardSaid : Prop := Claim7.holds Tryd.pinned (.plain (OpenSpec.ofChange fnSimilarSelfSpec)) fnSimilarSelfCard

/-- THE TIED CARD OF 'laws.FnSimilarSteps'. -/
def fnSimilarStepsCard : Claim7 := { stood := { row := fnSimilarStepsRow, standIns := [], harness := (true, "d5e78bad77d8cfd05db1085ae222f981792139a680464106016c3dbfdde16930"), looks := false }, kinds := [], alts := [], laidByText := true, laidKinds := [.data, .data], laidTests := true, laidLooks := .later }
def FnSimilarStepsCardSaid : Prop := Claim7.holds Tryd.pinned (.plain (OpenSpec.ofChange fnSimilarStepsSpec)) fnSimilarStepsCard

/-- THE TIED CARD OF 'laws.FnSimilarStates'. -/
def fnSimilarStatesCard : Claim7 := { stood := { row := fnSimilarStatesRow, standIns := [], harness := (true, "d5e78bad77d8cfd05db1085ae222f981792139a680464106016c3dbfdde16930"), looks := false }, kinds := [], alts := [], laidByText := true, laidKinds := [.data, .data], laidTests := true, laidLooks := .later }
def FnSimilarStatesCardSaid : Prop := Claim7.holds Tryd.pinned (.plain (OpenSpec.ofChange fnSimilarStatesSpec)) fnSimilarStatesCard

/-- THE SECOND FORM's CARD OF 'laws.FnBisimClasses'. -/
def fnBisimClassesUptoCard : Claim7 := { stood := { row := fnBisimClassesUptoRow, standIns := [], harness := (true, "d5e78bad77d8cfd05db1085ae222f981792139a680464106016c3dbfdde16930"), looks := false }, kinds := [], alts := [], laidByText := true, laidKinds := [.data, .data], laidTests := true, laidLooks := .later }
def FnBisimClassesUptoCardSaid : Prop := Claim7.holds Tryd.pinned (.plain (OpenSpec.upto fnBisimClassesSpec)) fnBisimClassesUptoCard

/-- THE SECOND FORM's CARD OF 'laws.FnBisimOrder'. -/
def fnBisimOrderUptoCard : Claim7 := { stood := { row := fnBisimOrderUptoRow, standIns := [], harness := (true, "d5e78bad77d8cfd05db1085ae222f981792139a680464106016c3dbfdde16930"), looks := false }, kinds := [], alts := [], laidByText := true, laidKinds := [.data, .data], laidTests := true, laidLooks := .later }
def FnBisimOrderUptoCardSaid : Prop := Claim7.holds Tryd.pinned (.plain (OpenSpec.upto fnBisimOrderSpec)) fnBisimOrderUptoCard

/-- THE SECOND FORM's CARD OF 'laws.FnSimulatesDrop'. -/
def fnSimulatesDropUptoCard : Claim7 := { stood := { row := fnSimulatesDropUptoRow, standIns := [], harness := (true, "d5e78bad77d8cfd05db1085ae222f981792139a680464106016c3dbfdde16930"), looks := false }, kinds := [], alts := [], laidByText := true, laidKinds := [.data, .data], laidTests := true, laidLooks := .later }
def FnSimulatesDropUptoCardSaid : Prop := Claim7.holds Tryd.pinned (.plain (OpenSpec.upto fnSimulatesDropSpec)) fnSimulatesDropUptoCard

/-- THE SECOND FORM's CARD OF 'laws.FnSimilarSelf'. -/
def fnSimilarSelfUptoCard : Claim7 := { stood := { row := fnSimilarSelfUptoRow, standIns := [], harness := (true, "d5e78bad77d8cfd05db1085ae222f981792139a680464106016c3dbfdde16930"), looks := false }, kinds := [], alts := [], laidByText := true, laidKinds := [.data, .data], laidTests := true, laidLooks := .later }
def FnSimilarSelfUptoCardSaid : Prop := Claim7.holds Tryd.pinned (.plain (OpenSpec.upto fnSimilarSelfSpec)) fnSimilarSelfUptoCard

/-- THE SECOND FORM's CARD OF 'laws.FnSimilarSteps'. -/
def fnSimilarStepsUptoCard : Claim7 := { stood := { row := fnSimilarStepsUptoRow, standIns := [], harness := (true, "d5e78bad77d8cfd05db1085ae222f981792139a680464106016c3dbfdde16930"), looks := false }, kinds := [], alts := [], laidByText := true, laidKinds := [.data, .data], laidTests := true, laidLooks := .later }
def FnSimilarStepsUptoCardSaid : Prop := Claim7.holds Tryd.pinned (.plain (OpenSpec.upto fnSimilarStepsSpec)) fnSimilarStepsUptoCard

/-- THE SECOND FORM's CARD OF 'laws.FnSimilarStates'. -/
def fnSimilarStatesUptoCard : Claim7 := { stood := { row := fnSimilarStatesUptoRow, standIns := [], harness := (true, "d5e78bad77d8cfd05db1085ae222f981792139a680464106016c3dbfdde16930"), looks := false }, kinds := [], alts := [], laidByText := true, laidKinds := [.data, .data], laidTests := true, laidLooks := .later }
def FnSimilarStatesUptoCardSaid : Prop := Claim7.holds Tryd.pinned (.plain (OpenSpec.upto fnSimilarStatesSpec)) fnSimilarStatesUptoCard
end Rows
end Go.Proofs.YtddecgjkmdaobaaDoor
