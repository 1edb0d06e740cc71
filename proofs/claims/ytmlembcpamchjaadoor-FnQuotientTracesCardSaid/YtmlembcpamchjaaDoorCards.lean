/-
  DERIVED. GIVEN WITH THE SEED: THE CARDS: each row of YtmlembcpamchjaaDoorRows.lean that lists a variable, with what it lists TIED to the program's text (the seventh form; the later family's looks); each row that meets fmt, with fmt's text TOLD by the authors' own Lean function (tested against real Go, not proved from fmt's source: count such statements apart). THE CARD IS WHAT COUNTS. Prove the row's statement (the work); the ties are given (YtmlembcpamchjaaDoorTie.lean); close each card by the builder's one call (the guide's Derived/Test/ToyasCard.lean, 'card_holds'). Laid BY PROGRAM, IN A SANDBOX (cutbox-door.mjs). By AI agents, Wed Nov 11 2026. No macro, syntax, notation, axiom, sorry.
-/
import Derived.Test.YtmlembcpamchjaaDoorRows
import GoSem.ClaimSeven
namespace Go.Proofs.YtmlembcpamchjaaDoor
namespace Rows

/-- THE TIED CARD OF 'laws.FnExactQuotientSystem'. -/
def fnExactQuotientSystemCard : Claim7 := { stood := { row := fnExactQuotientSystemRow, standIns := [], harness := (true, "81332f56cd909f980c26f6a7a675520142fdbf93dbe63427e95e563cbeb0da52"), looks := false }, kinds := [], alts := [], laidByText := true, laidKinds := [.data, .data], laidTests := true, laidLooks := .later }
def FnExactQuotientSystemCardSaid : Prop := Claim7.holds Tryd.pinned (.plain (OpenSpec.ofChange fnExactQuotientSystemSpec)) fnExactQuotientSystemCard

/-- THE TIED CARD OF 'laws.FnQuotient'. -/
def fnQuotientCard : Claim7 := { stood := { row := fnQuotientRow, standIns := [], harness := (true, "81332f56cd909f980c26f6a7a675520142fdbf93dbe63427e95e563cbeb0da52"), looks := false }, kinds := [], alts := [], laidByText := true, laidKinds := [.data, .data], laidTests := true, laidLooks := .later }
def FnQuotientCardSaid : Prop := Claim7.holds Tryd.pinned (.plain (OpenSpec.ofChange fnQuotientSpec)) fnQuotientCard

/-- THE TIED CARD OF 'laws.FnBisimilarQuotient'. -/
def fnBisimilarQuotientCard : Claim7 := { stood := { row := fnBisimilarQuotientRow, standIns := [], harness := (true, "81332f56cd909f980c26f6a7a675520142fdbf93dbe63427e95e563cbeb0da52"), looks := false }, kinds := [], alts := [], laidByText := true, laidKinds := [.data, .data], laidTests := true, laidLooks := .later }
def FnBisimilarQuotientCardSaid : Prop := Claim7.holds Tryd.pinned (.plain (OpenSpec.ofChange fnBisimilarQuotientSpec)) fnBisimilarQuotientCard

/-- THE TIED CARD OF 'laws.FnQuotientTraces'. -/
def fnQuotientTracesCard : Claim7 := { stood := { row := fnQuotientTracesRow, standIns := [], harness := (true, "81332f56cd909f980c26f6a7a675520142fdbf93dbe63427e95e563cbeb0da52"), looks := false }, kinds := [], alts := [], laidByText := true, laidKinds := [.data, .data], laidTests := true, laidLooks := .later }
def FnQuotientTracesCardSaid : Prop := Claim7.holds Tryd.pinned (.plain (OpenSpec.ofChange fnQuotientTracesSpec)) fnQuotientTracesCard

/-- THE SECOND FORM's CARD OF 'laws.FnExactQuotientSystem'. -/
def fnExactQuotientSystemUptoCard : Claim7 := { stood := { row := fnExactQuotientSystemUptoRow, standIns := [], harness := (true, "81332f56cd909f980c26f6a7a675520142fdbf93dbe63427e95e563cbeb0da52"), looks := false }, kinds := [], alts := [], laidByText := true, laidKinds := [.data, .data], laidTests := true, laidLooks := .later }
def FnExactQuotientSystemUptoCardSaid : Prop := Claim7.holds Tryd.pinned (.plain (OpenSpec.upto fnExactQuotientSystemSpec)) fnExactQuotientSystemUptoCard

/-- THE SECOND FORM's CARD OF 'laws.FnQuotient'. -/
def fnQuotientUptoCard : Claim7 := { stood := { row := fnQuotientUptoRow, standIns := [], harness := (true, "81332f56cd909f980c26f6a7a675520142fdbf93dbe63427e95e563cbeb0da52"), looks := false }, kinds := [], alts := [], laidByText := true, laidKinds := [.data, .data], laidTests := true, laidLooks := .later }
def FnQuotientUptoCardSaid : Prop := Claim7.holds Tryd.pinned (.plain (OpenSpec.upto fnQuotientSpec)) fnQuotientUptoCard

/-- THE SECOND FORM's CARD OF 'laws.FnBisimilarQuotient'. -/
def fnBisimilarQuotientUptoCard : Claim7 := { stood := { row := fnBisimilarQuotientUptoRow, standIns := [], harness := (true, "81332f56cd909f980c26f6a7a675520142fdbf93dbe63427e95e563cbeb0da52"), looks := false }, kinds := [], alts := [], laidByText := true, laidKinds := [.data, .data], laidTests := true, laidLooks := .later }
def FnBisimilarQuotientUptoCardSaid : Prop := Claim7.holds Tryd.pinned (.plain (OpenSpec.upto fnBisimilarQuotientSpec)) fnBisimilarQuotientUptoCard

/-- THE SECOND FORM's CARD OF 'laws.FnQuotientTraces'. -/
def fnQuotientTracesUptoCard : Claim7 := { stood := { row := fnQuotientTracesUptoRow, standIns := [], harness := (true, "81332f56cd909f980c26f6a7a675520142fdbf93dbe63427e95e563cbeb0da52"), looks := false }, kinds := [], alts := [], laidByText := true, laidKinds := [.data, .data], laidTests := true, laidLooks := .later }
def FnQuotientTracesUptoCardSaid : Prop := Claim7.holds Tryd.pinned (.plain (OpenSpec.upto fnQuotientTracesSpec)) fnQuotientTracesUptoCard
end Rows
end Go.Proofs.YtmlembcpamchjaaDoor
