/-
  DERIVED. GIVEN WITH THE SEED: THE CARDS: each row of YtndhahednhnnbaaGreatDoorRows.lean that lists a variable, with what it lists TIED to the program's text (the seventh form; the later family's looks); each row that meets fmt, with fmt's text TOLD by the authors' own Lean function (tested against real Go, not proved from fmt's source: count such statements apart). THE CARD IS WHAT COUNTS. Prove the row's statement (the work); the ties are given (YtndhahednhnnbaaGreatDoorTie.lean); close each card by the builder's one call (the guide's Derived/Test/ToyasCard.lean, 'card_holds'). Laid BY PROGRAM, IN A SANDBOX (cutbox-door.mjs). By AI agents, Wed Nov 11 2026. No macro, syntax, notation, axiom, sorry.
-/
import Derived.Test.YtndhahednhnnbaaGreatDoorRows
import GoSem.ClaimSeven
namespace Go.Proofs.YtndhahednhnnbaaGreatDoor
namespace Rows

/-- THE TIED CARD OF 'laws.FnChainFault'. -/
def fnChainFaultCard : Claim7 := { stood := { row := fnChainFaultRow, standIns := [], harness := (true, "b093ad20be601d992a9f5b57b83cbb49bcc12472cd68c58de82248ca97020c51"), looks := false }, kinds := [], alts := [], laidByText := true, laidKinds := [.data, .data], laidTests := true, laidLooks := .later }
def FnChainFaultCardSaid : Prop := Claim7.holds Tryz.pinned (.plain (OpenSpec.ofChange fnChainFaultSpec)) fnChainFaultCard

/-- THE TIED CARD OF 'laws.FnChainFewer'. -/
def fnChainFewerCard : Claim7 := { stood := { row := fnChainFewerRow, standIns := [], harness := (true, "b093ad20be601d992a9f5b57b83cbb49bcc12472cd68c58de82248ca97020c51"), looks := false }, kinds := [], alts := [], laidByText := true, laidKinds := [.data, .data], laidTests := true, laidLooks := .later }
def FnChainFewerCardSaid : Prop := Claim7.holds Tryz.pinned (.plain (OpenSpec.ofChange fnChainFewerSpec)) fnChainFewerCard

/-- THE TIED CARD OF 'laws.FnChainSound'. -/
def fnChainSoundCard : Claim7 := { stood := { row := fnChainSoundRow, standIns := [], harness := (true, "b093ad20be601d992a9f5b57b83cbb49bcc12472cd68c58de82248ca97020c51"), looks := false }, kinds := [], alts := [], laidByText := true, laidKinds := [.data, .data], laidTests := true, laidLooks := .later }
def FnChainSoundCardSaid : Prop := Claim7.holds Tryz.pinned (.plain (OpenSpec.ofChange fnChainSoundSpec)) fnChainSoundCard

/-- THE TIED CARD OF 'laws.FnChainLinks'. -/
def fnChainLinksCard : Claim7 := { stood := { row := fnChainLinksRow, standIns := [], harness := (true, "b093ad20be601d992a9f5b57b83cbb49bcc12472cd68c58de82248ca97020c51"), looks := false }, kinds := [], alts := [], laidByText := true, laidKinds := [.data, .data], laidTests := true, laidLooks := .later }
def FnChainLinksCardSaid : Prop := Claim7.holds Tryz.pinned (.plain (OpenSpec.ofChange fnChainLinksSpec)) fnChainLinksCard

/-- THE TIED CARD OF 'laws.FnCheckFails'. -/
def fnCheckFailsCard : Claim7 := { stood := { row := fnCheckFailsRow, standIns := [], harness := (true, "b093ad20be601d992a9f5b57b83cbb49bcc12472cd68c58de82248ca97020c51"), looks := false }, kinds := [], alts := [], laidByText := true, laidKinds := [.data, .data], laidTests := true, laidLooks := .later }
def FnCheckFailsCardSaid : Prop := Claim7.holds Tryz.pinned (.plain (OpenSpec.ofChange fnCheckFailsSpec)) fnCheckFailsCard

/-- THE TIED CARD OF 'laws.FnCheckFewer'. -/
def fnCheckFewerCard : Claim7 := { stood := { row := fnCheckFewerRow, standIns := [], harness := (true, "b093ad20be601d992a9f5b57b83cbb49bcc12472cd68c58de82248ca97020c51"), looks := false }, kinds := [], alts := [], laidByText := true, laidKinds := [.data, .data], laidTests := true, laidLooks := .later }
def FnCheckFewerCardSaid : Prop := Claim7.holds Tryz.pinned (.plain (OpenSpec.ofChange fnCheckFewerSpec)) fnCheckFewerCard

/-- THE TIED CARD OF 'laws.FnCheckHolds'. -/
def fnCheckHoldsCard : Claim7 := { stood := { row := fnCheckHoldsRow, standIns := [], harness := (true, "b093ad20be601d992a9f5b57b83cbb49bcc12472cd68c58de82248ca97020c51"), looks := false }, kinds := [], alts := [], laidByText := true, laidKinds := [.data, .data], laidTests := true, laidLooks := .later }
def FnCheckHoldsCardSaid : Prop := Claim7.holds Tryz.pinned (.plain (OpenSpec.ofChange fnCheckHoldsSpec)) fnCheckHoldsCard

/-- THE TIED CARD OF 'laws.FnCheckOrder'. -/
def fnCheckOrderCard : Claim7 := { stood := { row := fnCheckOrderRow, standIns := [], harness := (true, "b093ad20be601d992a9f5b57b83cbb49bcc12472cd68c58de82248ca97020c51"), looks := false }, kinds := [], alts := [], laidByText := true, laidKinds := [.data, .data], laidTests := true, laidLooks := .later }
def FnCheckOrderCardSaid : Prop := Claim7.holds Tryz.pinned (.plain (OpenSpec.ofChange fnCheckOrderSpec)) fnCheckOrderCard

/-- THE TIED CARD OF 'laws.FnCheckSound'. -/
def fnCheckSoundCard : Claim7 := { stood := { row := fnCheckSoundRow, standIns := [], harness := (true, "b093ad20be601d992a9f5b57b83cbb49bcc12472cd68c58de82248ca97020c51"), looks := false }, kinds := [], alts := [], laidByText := true, laidKinds := [.data, .data], laidTests := true, laidLooks := .later }
def FnCheckSoundCardSaid : Prop := Claim7.holds Tryz.pinned (.plain (OpenSpec.ofChange fnCheckSoundSpec)) fnCheckSoundCard

/-- THE TIED CARD OF 'laws.FnCheckTurned'. -/
def fnCheckTurnedCard : Claim7 := { stood := { row := fnCheckTurnedRow, standIns := [], harness := (true, "b093ad20be601d992a9f5b57b83cbb49bcc12472cd68c58de82248ca97020c51"), looks := false }, kinds := [], alts := [], laidByText := true, laidKinds := [.data, .data], laidTests := true, laidLooks := .later }
def FnCheckTurnedCardSaid : Prop := Claim7.holds Tryz.pinned (.plain (OpenSpec.ofChange fnCheckTurnedSpec)) fnCheckTurnedCard

/-- THE TIED CARD OF 'laws.FnCheckMore'. -/
def fnCheckMoreCard : Claim7 := { stood := { row := fnCheckMoreRow, standIns := [], harness := (true, "b093ad20be601d992a9f5b57b83cbb49bcc12472cd68c58de82248ca97020c51"), looks := false }, kinds := [], alts := [], laidByText := true, laidKinds := [.data, .data], laidTests := true, laidLooks := .later }
def FnCheckMoreCardSaid : Prop := Claim7.holds Tryz.pinned (.plain (OpenSpec.ofChange fnCheckMoreSpec)) fnCheckMoreCard

/-- THE TIED CARD OF 'laws.FnCheckLonger'. -/
def fnCheckLongerCard : Claim7 := { stood := { row := fnCheckLongerRow, standIns := [], harness := (true, "b093ad20be601d992a9f5b57b83cbb49bcc12472cd68c58de82248ca97020c51"), looks := false }, kinds := [], alts := [], laidByText := true, laidKinds := [.data, .data], laidTests := true, laidLooks := .later }
def FnCheckLongerCardSaid : Prop := Claim7.holds Tryz.pinned (.plain (OpenSpec.ofChange fnCheckLongerSpec)) fnCheckLongerCard

/-- THE SECOND FORM's CARD OF 'laws.FnChainFault'. -/
def fnChainFaultUptoCard : Claim7 := { stood := { row := fnChainFaultUptoRow, standIns := [], harness := (true, "b093ad20be601d992a9f5b57b83cbb49bcc12472cd68c58de82248ca97020c51"), looks := false }, kinds := [], alts := [], laidByText := true, laidKinds := [.data, .data], laidTests := true, laidLooks := .later }
def FnChainFaultUptoCardSaid : Prop := Claim7.holds Tryz.pinned (.plain (OpenSpec.upto fnChainFaultSpec)) fnChainFaultUptoCard

/-- THE SECOND FORM's CARD OF 'laws.FnChainFewer'. -/
def fnChainFewerUptoCard : Claim7 := { stood := { row := fnChainFewerUptoRow, standIns := [], harness := (true, "b093ad20be601d992a9f5b57b83cbb49bcc12472cd68c58de82248ca97020c51"), looks := false }, kinds := [], alts := [], laidByText := true, laidKinds := [.data, .data], laidTests := true, laidLooks := .later }
def FnChainFewerUptoCardSaid : Prop := Claim7.holds Tryz.pinned (.plain (OpenSpec.upto fnChainFewerSpec)) fnChainFewerUptoCard

/-- THE SECOND FORM's CARD OF 'laws.FnChainSound'. -/
def fnChainSoundUptoCard : Claim7 := { stood := { row := fnChainSoundUptoRow, standIns := [], harness := (true, "b093ad20be601d992a9f5b57b83cbb49bcc12472cd68c58de82248ca97020c51"), looks := false }, kinds := [], alts := [], laidByText := true, laidKinds := [.data, .data], laidTests := true, laidLooks := .later }
def FnChainSoundUptoCardSaid : Prop := Claim7.holds Tryz.pinned (.plain (OpenSpec.upto fnChainSoundSpec)) fnChainSoundUptoCard

/-- THE SECOND FORM's CARD OF 'laws.FnChainLinks'. -/
def fnChainLinksUptoCard : Claim7 := { stood := { row := fnChainLinksUptoRow, standIns := [], harness := (true, "b093ad20be601d992a9f5b57b83cbb49bcc12472cd68c58de82248ca97020c51"), looks := false }, kinds := [], alts := [], laidByText := true, laidKinds := [.data, .data], laidTests := true, laidLooks := .later }
def FnChainLinksUptoCardSaid : Prop := Claim7.holds Tryz.pinned (.plain (OpenSpec.upto fnChainLinksSpec)) fnChainLinksUptoCard

/-- THE SECOND FORM's CARD OF 'laws.FnCheckFails'. -/
def fnCheckFailsUptoCard : Claim7 := { stood := { row := fnCheckFailsUptoRow, standIns := [], harness := (true, "b093ad20be601d992a9f5b57b83cbb49bcc12472cd68c58de82248ca97020c51"), looks := false }, kinds := [], alts := [], laidByText := true, laidKinds := [.data, .data], laidTests := true, laidLooks := .later }
def FnCheckFailsUptoCardSaid : Prop := Claim7.holds Tryz.pinned (.plain (OpenSpec.upto fnCheckFailsSpec)) fnCheckFailsUptoCard

/-- THE SECOND FORM's CARD OF 'laws.FnCheckFewer'. -/
def fnCheckFewerUptoCard : Claim7 := { stood := { row := fnCheckFewerUptoRow, standIns := [], harness := (true, "b093ad20be601d992a9f5b57b83cbb49bcc12472cd68c58de82248ca97020c51"), looks := false }, kinds := [], alts := [], laidByText := true, laidKinds := [.data, .data], laidTests := true, laidLooks := .later }
def FnCheckFewerUptoCardSaid : Prop := Claim7.holds Tryz.pinned (.plain (OpenSpec.upto fnCheckFewerSpec)) fnCheckFewerUptoCard

/-- THE SECOND FORM's CARD OF 'laws.FnCheckHolds'. -/
def fnCheckHoldsUptoCard : Claim7 := { stood := { row := fnCheckHoldsUptoRow, standIns := [], harness := (true, "b093ad20be601d992a9f5b57b83cbb49bcc12472cd68c58de82248ca97020c51"), looks := false }, kinds := [], alts := [], laidByText := true, laidKinds := [.data, .data], laidTests := true, laidLooks := .later }
def FnCheckHoldsUptoCardSaid : Prop := Claim7.holds Tryz.pinned (.plain (OpenSpec.upto fnCheckHoldsSpec)) fnCheckHoldsUptoCard

/-- THE SECOND FORM's CARD OF 'laws.FnCheckOrder'. -/
def fnCheckOrderUptoCard : Claim7 := { stood := { row := fnCheckOrderUptoRow, standIns := [], harness := (true, "b093ad20be601d992a9f5b57b83cbb49bcc12472cd68c58de82248ca97020c51"), looks := false }, kinds := [], alts := [], laidByText := true, laidKinds := [.data, .data], laidTests := true, laidLooks := .later }
def FnCheckOrderUptoCardSaid : Prop := Claim7.holds Tryz.pinned (.plain (OpenSpec.upto fnCheckOrderSpec)) fnCheckOrderUptoCard

/-- THE SECOND FORM's CARD OF 'laws.FnCheckSound'. -/
def fnCheckSoundUptoCard : Claim7 := { stood := { row := fnCheckSoundUptoRow, standIns := [], harness := (true, "b093ad20be601d992a9f5b57b83cbb49bcc12472cd68c58de82248ca97020c51"), looks := false }, kinds := [], alts := [], laidByText := true, laidKinds := [.data, .data], laidTests := true, laidLooks := .later }
def FnCheckSoundUptoCardSaid : Prop := Claim7.holds Tryz.pinned (.plain (OpenSpec.upto fnCheckSoundSpec)) fnCheckSoundUptoCard

/-- THE SECOND FORM's CARD OF 'laws.FnCheckTurned'. -/
def fnCheckTurnedUptoCard : Claim7 := { stood := { row := fnCheckTurnedUptoRow, standIns := [], harness := (true, "b093ad20be601d992a9f5b57b83cbb49bcc12472cd68c58de82248ca97020c51"), looks := false }, kinds := [], alts := [], laidByText := true, laidKinds := [.data, .data], laidTests := true, laidLooks := .later }
def FnCheckTurnedUptoCardSaid : Prop := Claim7.holds Tryz.pinned (.plain (OpenSpec.upto fnCheckTurnedSpec)) fnCheckTurnedUptoCard

/-- THE SECOND FORM's CARD OF 'laws.FnCheckMore'. -/
def fnCheckMoreUptoCard : Claim7 := { stood := { row := fnCheckMoreUptoRow, standIns := [], harness := (true, "b093ad20be601d992a9f5b57b83cbb49bcc12472cd68c58de82248ca97020c51"), looks := false }, kinds := [], alts := [], laidByText := true, laidKinds := [.data, .data], laidTests := true, laidLooks := .later }
def FnCheckMoreUptoCardSaid : Prop := Claim7.holds Tryz.pinned (.plain (OpenSpec.upto fnCheckMoreSpec)) fnCheckMoreUptoCard

/-- THE SECOND FORM's CARD OF 'laws.FnCheckLonger'. -/
def fnCheckLongerUptoCard : Claim7 := { stood := { row := fnCheckLongerUptoRow, standIns := [], harness := (true, "b093ad20be601d992a9f5b57b83cbb49bcc12472cd68c58de82248ca97020c51"), looks := false }, kinds := [], alts := [], laidByText := true, laidKinds := [.data, .data], laidTests := true, laidLooks := .later }
def FnCheckLongerUptoCardSaid : Prop := Claim7.holds Tryz.pinned (.plain (OpenSpec.upto fnCheckLongerSpec)) fnCheckLongerUptoCard
end Rows
end Go.Proofs.YtndhahednhnnbaaGreatDoor
