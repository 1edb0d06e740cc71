/-
  DERIVED. GIVEN WITH THE SEED: THE CARDS: each row of YtdeopnjheeekcaaDoorRows.lean that lists a variable, with what it lists TIED to the program's text (the seventh form; the later family's looks); each row that meets fmt, with fmt's text TOLD by the authors' own Lean function (tested against real Go, not proved from fmt's source: count such statements apart). THE CARD IS WHAT COUNTS. Prove the row's statement (the work); the ties are given (YtdeopnjheeekcaaDoorTie.lean); close each card by the builder's one call (the guide's Derived/Test/ToyasCard.lean, 'card_holds'). Laid BY PROGRAM, IN A SANDBOX (cutbox-door.mjs). By AI agents, Wed Nov 11 2026. No macro, syntax, notation, axiom, sorry.
-/
import Derived.Test.YtdeopnjheeekcaaDoorRows
import GoSem.ClaimSeven
namespace Go.Proofs.YtdeopnjheeekcaaDoor
namespace Rows

/-- THE TIED CARD OF 'laws.FnExactBisimilar'. -/
def fnExactBisimilarCard : Claim7 := { stood := { row := fnExactBisimilarRow, standIns := [], harness := (true, "3552b540cd242861291b2bf7657e28f4754d645cd21e47e51a6fa2595efcdb84"), looks := false }, kinds := [], alts := [], laidByText := true, laidKinds := [.data, .data], laidTests := true, laidLooks := .later }
def FnExactBisimilarCardSaid : Prop := Claim7.holds Tryd.pinned (.plain (OpenSpec.ofChange fnExactBisimilarSpec)) fnExactBisimilarCard

/-- THE TIED CARD OF 'laws.FnExactSimulates'. -/
def fnExactSimulatesCard : Claim7 := { stood := { row := fnExactSimulatesRow, standIns := [], harness := (true, "3552b540cd242861291b2bf7657e28f4754d645cd21e47e51a6fa2595efcdb84"), looks := false }, kinds := [], alts := [], laidByText := true, laidKinds := [.data, .data], laidTests := true, laidLooks := .later }
def FnExactSimulatesCardSaid : Prop := Claim7.holds Tryd.pinned (.plain (OpenSpec.ofChange fnExactSimulatesSpec)) fnExactSimulatesCard

/-- THE TIED CARD OF 'laws.FnExactSimilarStates'. -/
def fnExactSimilarStatesCard : Claim7 := { stood := { row := fnExactSimilarStatesRow, standIns := [], harness := (true, "3552b540cd242861291b2bf7657e28f4754d645cd21e47e51a6fa2595efcdb84"), looks := false }, kinds := [], alts := [], laidByText := true, laidKinds := [.data, .data], laidTests := true, laidLooks := .later }
def FnExactSimilarStatesCardSaid : Prop := Claim7.holds Tryd.pinned (.plain (OpenSpec.ofChange fnExactSimilarStatesSpec)) fnExactSimilarStatesCard

/-- THE TIED CARD OF 'laws.FnExactBisimClasses'. -/
def fnExactBisimClassesCard : Claim7 := { stood := { row := fnExactBisimClassesRow, standIns := [], harness := (true, "3552b540cd242861291b2bf7657e28f4754d645cd21e47e51a6fa2595efcdb84"), looks := false }, kinds := [], alts := [], laidByText := true, laidKinds := [.data, .data], laidTests := true, laidLooks := .later }
def FnExactBisimClassesCardSaid : Prop := Claim7.holds Tryd.pinned (.plain (OpenSpec.ofChange fnExactBisimClassesSpec)) fnExactBisimClassesCard

/-- THE SECOND FORM's CARD OF 'laws.FnExactBisimilar'. -/
def fnExactBisimilarUptoCard : Claim7 := { stood := { row := fnExactBisimilarUptoRow, standIns := [], harness := (true, "3552b540cd242861291b2bf7657e28f4754d645cd21e47e51a6fa2595efcdb84"), looks := false }, kinds := [], alts := [], laidByText := true, laidKinds := [.data, .data], laidTests := true, laidLooks := .later }
def FnExactBisimilarUptoCardSaid : Prop := Claim7.holds Tryd.pinned (.plain (OpenSpec.upto fnExactBisimilarSpec)) fnExactBisimilarUptoCard

/-- THE SECOND FORM's CARD OF 'laws.FnExactSimulates'. -/
def fnExactSimulatesUptoCard : Claim7 := { stood := { row := fnExactSimulatesUptoRow, standIns := [], harness := (true, "3552b540cd242861291b2bf7657e28f4754d645cd21e47e51a6fa2595efcdb84"), looks := false }, kinds := [], alts := [], laidByText := true, laidKinds := [.data, .data], laidTests := true, laidLooks := .later }
def FnExactSimulatesUptoCardSaid : Prop := Claim7.holds Tryd.pinned (.plain (OpenSpec.upto fnExactSimulatesSpec)) fnExactSimulatesUptoCard

/-- THE SECOND FORM's CARD OF 'laws.FnExactSimilarStates'. -/
def fnExactSimilarStatesUptoCard : Claim7 := { stood := { row := fnExactSimilarStatesUptoRow, standIns := [], harness := (true, "3552b540cd242861291b2bf7657e28f4754d645cd21e47e51a6fa2595efcdb84"), looks := false }, kinds := [], alts := [], laidByText := true, laidKinds := [.data, .data], laidTests := true, laidLooks := .later }
def FnExactSimilarStatesUptoCardSaid : Prop := Claim7.holds Tryd.pinned (.plain (OpenSpec.upto fnExactSimilarStatesSpec)) fnExactSimilarStatesUptoCard

/-- THE SECOND FORM's CARD OF 'laws.FnExactBisimClasses'. -/
def fnExactBisimClassesUptoCard : Claim7 := { stood := { row := fnExactBisimClassesUptoRow, standIns := [], harness := (true, "3552b540cd242861291b2bf7657e28f4754d645cd21e47e51a6fa2595efcdb84"), looks := false }, kinds := [], alts := [], laidByText := true, laidKinds := [.data, .data], laidTests := true, laidLooks := .later }
def FnExactBisimClassesUptoCardSaid : Prop := Claim7.holds Tryd.pinned (.plain (OpenSpec.upto fnExactBisimClassesSpec)) fnExactBisimClassesUptoCard
end Rows
end Go.Proofs.YtdeopnjheeekcaaDoor
