/-
  DERIVED. GIVEN WITH THE SEED: THE CARDS: each row of YtcfchopfijalpaaGreatDoorRows.lean that lists a variable, with what it lists TIED to the program's text (the seventh form; the later family's looks); each row that meets fmt, with fmt's text TOLD by the authors' own Lean function (tested against real Go, not proved from fmt's source: count such statements apart). THE CARD IS WHAT COUNTS. Prove the row's statement (the work); the ties are given (YtcfchopfijalpaaGreatDoorTie.lean); close each card by the builder's one call (the guide's Derived/Test/ToyasCard.lean, 'card_holds'). Laid BY PROGRAM, IN A SANDBOX (cutbox-door.mjs). By AI agents, Wed Nov 11 2026. No macro, syntax, notation, axiom, sorry.
-/
import Derived.Test.YtcfchopfijalpaaGreatDoorRows
import GoSem.ClaimSeven
namespace Go.Proofs.YtcfchopfijalpaaGreatDoor
namespace Rows

/-- THE TIED CARD OF 'laws.FnExactCertifyPair'. -/
def fnExactCertifyPairCard : Claim7 := { stood := { row := fnExactCertifyPairRow, standIns := [], harness := (true, "6b22d0b67bc171b43e9bfb5c88b3c7120b9fb5a69a027ab593f80e0dbfe20da8"), looks := false }, kinds := [], alts := [], laidByText := true, laidKinds := [.data, .data], laidTests := true, laidLooks := .later }
def FnExactCertifyPairCardSaid : Prop := Claim7.holds Tryz.pinned (.plain (OpenSpec.ofChange fnExactCertifyPairSpec)) fnExactCertifyPairCard

/-- THE TIED CARD OF 'laws.FnExactVerifyChain'. -/
def fnExactVerifyChainCard : Claim7 := { stood := { row := fnExactVerifyChainRow, standIns := [], harness := (true, "6b22d0b67bc171b43e9bfb5c88b3c7120b9fb5a69a027ab593f80e0dbfe20da8"), looks := false }, kinds := [], alts := [], laidByText := true, laidKinds := [.data, .data], laidTests := true, laidLooks := .later }
def FnExactVerifyChainCardSaid : Prop := Claim7.holds Tryz.pinned (.plain (OpenSpec.ofChange fnExactVerifyChainSpec)) fnExactVerifyChainCard

/-- THE TIED CARD OF 'laws.FnChainRounds'. -/
def fnChainRoundsCard : Claim7 := { stood := { row := fnChainRoundsRow, standIns := [], harness := (true, "6b22d0b67bc171b43e9bfb5c88b3c7120b9fb5a69a027ab593f80e0dbfe20da8"), looks := false }, kinds := [], alts := [], laidByText := true, laidKinds := [.data, .data], laidTests := true, laidLooks := .later }
def FnChainRoundsCardSaid : Prop := Claim7.holds Tryz.pinned (.plain (OpenSpec.ofChange fnChainRoundsSpec)) fnChainRoundsCard

/-- THE TIED CARD OF 'laws.FnChainSecond'. -/
def fnChainSecondCard : Claim7 := { stood := { row := fnChainSecondRow, standIns := [], harness := (true, "6b22d0b67bc171b43e9bfb5c88b3c7120b9fb5a69a027ab593f80e0dbfe20da8"), looks := false }, kinds := [], alts := [], laidByText := true, laidKinds := [.data, .data], laidTests := true, laidLooks := .later }
def FnChainSecondCardSaid : Prop := Claim7.holds Tryz.pinned (.plain (OpenSpec.ofChange fnChainSecondSpec)) fnChainSecondCard

/-- THE TIED CARD OF 'laws.FnChainTurned'. -/
def fnChainTurnedCard : Claim7 := { stood := { row := fnChainTurnedRow, standIns := [], harness := (true, "6b22d0b67bc171b43e9bfb5c88b3c7120b9fb5a69a027ab593f80e0dbfe20da8"), looks := false }, kinds := [], alts := [], laidByText := true, laidKinds := [.data, .data], laidTests := true, laidLooks := .later }
def FnChainTurnedCardSaid : Prop := Claim7.holds Tryz.pinned (.plain (OpenSpec.ofChange fnChainTurnedSpec)) fnChainTurnedCard

/-- THE TIED CARD OF 'laws.FnChainVerdict'. -/
def fnChainVerdictCard : Claim7 := { stood := { row := fnChainVerdictRow, standIns := [], harness := (true, "6b22d0b67bc171b43e9bfb5c88b3c7120b9fb5a69a027ab593f80e0dbfe20da8"), looks := false }, kinds := [], alts := [], laidByText := true, laidKinds := [.data, .data], laidTests := true, laidLooks := .later }
def FnChainVerdictCardSaid : Prop := Claim7.holds Tryz.pinned (.plain (OpenSpec.ofChange fnChainVerdictSpec)) fnChainVerdictCard

/-- THE TIED CARD OF 'laws.FnChainSilent'. -/
def fnChainSilentCard : Claim7 := { stood := { row := fnChainSilentRow, standIns := [], harness := (true, "6b22d0b67bc171b43e9bfb5c88b3c7120b9fb5a69a027ab593f80e0dbfe20da8"), looks := false }, kinds := [], alts := [], laidByText := true, laidKinds := [.data, .data], laidTests := true, laidLooks := .later }
def FnChainSilentCardSaid : Prop := Claim7.holds Tryz.pinned (.plain (OpenSpec.ofChange fnChainSilentSpec)) fnChainSilentCard

/-- THE TIED CARD OF 'laws.FnCertifyVerdict'. -/
def fnCertifyVerdictCard : Claim7 := { stood := { row := fnCertifyVerdictRow, standIns := [], harness := (true, "6b22d0b67bc171b43e9bfb5c88b3c7120b9fb5a69a027ab593f80e0dbfe20da8"), looks := false }, kinds := [], alts := [], laidByText := true, laidKinds := [.data, .data], laidTests := true, laidLooks := .later }
def FnCertifyVerdictCardSaid : Prop := Claim7.holds Tryz.pinned (.plain (OpenSpec.ofChange fnCertifyVerdictSpec)) fnCertifyVerdictCard

/-- THE TIED CARD OF 'laws.FnChainHolds'. -/
def fnChainHoldsCard : Claim7 := { stood := { row := fnChainHoldsRow, standIns := [], harness := (true, "6b22d0b67bc171b43e9bfb5c88b3c7120b9fb5a69a027ab593f80e0dbfe20da8"), looks := false }, kinds := [], alts := [], laidByText := true, laidKinds := [.data, .data], laidTests := true, laidLooks := .later }
def FnChainHoldsCardSaid : Prop := Claim7.holds Tryz.pinned (.plain (OpenSpec.ofChange fnChainHoldsSpec)) fnChainHoldsCard

/-- THE TIED CARD OF 'laws.FnChainFails'. -/
def fnChainFailsCard : Claim7 := { stood := { row := fnChainFailsRow, standIns := [], harness := (true, "6b22d0b67bc171b43e9bfb5c88b3c7120b9fb5a69a027ab593f80e0dbfe20da8"), looks := false }, kinds := [], alts := [], laidByText := true, laidKinds := [.data, .data], laidTests := true, laidLooks := .later }
def FnChainFailsCardSaid : Prop := Claim7.holds Tryz.pinned (.plain (OpenSpec.ofChange fnChainFailsSpec)) fnChainFailsCard

/-- THE TIED CARD OF 'laws.FnCertifyAccepted'. -/
def fnCertifyAcceptedCard : Claim7 := { stood := { row := fnCertifyAcceptedRow, standIns := [], harness := (true, "6b22d0b67bc171b43e9bfb5c88b3c7120b9fb5a69a027ab593f80e0dbfe20da8"), looks := false }, kinds := [], alts := [], laidByText := true, laidKinds := [.data, .data], laidTests := true, laidLooks := .later }
def FnCertifyAcceptedCardSaid : Prop := Claim7.holds Tryz.pinned (.plain (OpenSpec.ofChange fnCertifyAcceptedSpec)) fnCertifyAcceptedCard

/-- THE TIED CARD OF 'laws.FnCheckAgainst'. -/
def fnCheckAgainstCard : Claim7 := { stood := { row := fnCheckAgainstRow, standIns := [], harness := (true, "6b22d0b67bc171b43e9bfb5c88b3c7120b9fb5a69a027ab593f80e0dbfe20da8"), looks := false }, kinds := [], alts := [], laidByText := true, laidKinds := [.data, .data], laidTests := true, laidLooks := .later }
def FnCheckAgainstCardSaid : Prop := Claim7.holds Tryz.pinned (.plain (OpenSpec.ofChange fnCheckAgainstSpec)) fnCheckAgainstCard

/-- THE SECOND FORM's CARD OF 'laws.FnExactCertifyPair'. -/
def fnExactCertifyPairUptoCard : Claim7 := { stood := { row := fnExactCertifyPairUptoRow, standIns := [], harness := (true, "6b22d0b67bc171b43e9bfb5c88b3c7120b9fb5a69a027ab593f80e0dbfe20da8"), looks := false }, kinds := [], alts := [], laidByText := true, laidKinds := [.data, .data], laidTests := true, laidLooks := .later }
def FnExactCertifyPairUptoCardSaid : Prop := Claim7.holds Tryz.pinned (.plain (OpenSpec.upto fnExactCertifyPairSpec)) fnExactCertifyPairUptoCard

/-- THE SECOND FORM's CARD OF 'laws.FnExactVerifyChain'. -/
def fnExactVerifyChainUptoCard : Claim7 := { stood := { row := fnExactVerifyChainUptoRow, standIns := [], harness := (true, "6b22d0b67bc171b43e9bfb5c88b3c7120b9fb5a69a027ab593f80e0dbfe20da8"), looks := false }, kinds := [], alts := [], laidByText := true, laidKinds := [.data, .data], laidTests := true, laidLooks := .later }
def FnExactVerifyChainUptoCardSaid : Prop := Claim7.holds Tryz.pinned (.plain (OpenSpec.upto fnExactVerifyChainSpec)) fnExactVerifyChainUptoCard

/-- THE SECOND FORM's CARD OF 'laws.FnChainRounds'. -/
def fnChainRoundsUptoCard : Claim7 := { stood := { row := fnChainRoundsUptoRow, standIns := [], harness := (true, "6b22d0b67bc171b43e9bfb5c88b3c7120b9fb5a69a027ab593f80e0dbfe20da8"), looks := false }, kinds := [], alts := [], laidByText := true, laidKinds := [.data, .data], laidTests := true, laidLooks := .later }
def FnChainRoundsUptoCardSaid : Prop := Claim7.holds Tryz.pinned (.plain (OpenSpec.upto fnChainRoundsSpec)) fnChainRoundsUptoCard

/-- THE SECOND FORM's CARD OF 'laws.FnChainSecond'. -/
def fnChainSecondUptoCard : Claim7 := { stood := { row := fnChainSecondUptoRow, standIns := [], harness := (true, "6b22d0b67bc171b43e9bfb5c88b3c7120b9fb5a69a027ab593f80e0dbfe20da8"), looks := false }, kinds := [], alts := [], laidByText := true, laidKinds := [.data, .data], laidTests := true, laidLooks := .later }
def FnChainSecondUptoCardSaid : Prop := Claim7.holds Tryz.pinned (.plain (OpenSpec.upto fnChainSecondSpec)) fnChainSecondUptoCard

/-- THE SECOND FORM's CARD OF 'laws.FnChainTurned'. -/
def fnChainTurnedUptoCard : Claim7 := { stood := { row := fnChainTurnedUptoRow, standIns := [], harness := (true, "6b22d0b67bc171b43e9bfb5c88b3c7120b9fb5a69a027ab593f80e0dbfe20da8"), looks := false }, kinds := [], alts := [], laidByText := true, laidKinds := [.data, .data], laidTests := true, laidLooks := .later }
def FnChainTurnedUptoCardSaid : Prop := Claim7.holds Tryz.pinned (.plain (OpenSpec.upto fnChainTurnedSpec)) fnChainTurnedUptoCard

/-- THE SECOND FORM's CARD OF 'laws.FnChainVerdict'. -/
def fnChainVerdictUptoCard : Claim7 := { stood := { row := fnChainVerdictUptoRow, standIns := [], harness := (true, "6b22d0b67bc171b43e9bfb5c88b3c7120b9fb5a69a027ab593f80e0dbfe20da8"), looks := false }, kinds := [], alts := [], laidByText := true, laidKinds := [.data, .data], laidTests := true, laidLooks := .later }
def FnChainVerdictUptoCardSaid : Prop := Claim7.holds Tryz.pinned (.plain (OpenSpec.upto fnChainVerdictSpec)) fnChainVerdictUptoCard

/-- THE SECOND FORM's CARD OF 'laws.FnChainSilent'. -/
def fnChainSilentUptoCard : Claim7 := { stood := { row := fnChainSilentUptoRow, standIns := [], harness := (true, "6b22d0b67bc171b43e9bfb5c88b3c7120b9fb5a69a027ab593f80e0dbfe20da8"), looks := false }, kinds := [], alts := [], laidByText := true, laidKinds := [.data, .data], laidTests := true, laidLooks := .later }
def FnChainSilentUptoCardSaid : Prop := Claim7.holds Tryz.pinned (.plain (OpenSpec.upto fnChainSilentSpec)) fnChainSilentUptoCard

/-- THE SECOND FORM's CARD OF 'laws.FnCertifyVerdict'. -/
def fnCertifyVerdictUptoCard : Claim7 := { stood := { row := fnCertifyVerdictUptoRow, standIns := [], harness := (true, "6b22d0b67bc171b43e9bfb5c88b3c7120b9fb5a69a027ab593f80e0dbfe20da8"), looks := false }, kinds := [], alts := [], laidByText := true, laidKinds := [.data, .data], laidTests := true, laidLooks := .later }
def FnCertifyVerdictUptoCardSaid : Prop := Claim7.holds Tryz.pinned (.plain (OpenSpec.upto fnCertifyVerdictSpec)) fnCertifyVerdictUptoCard

/-- THE SECOND FORM's CARD OF 'laws.FnChainHolds'. -/
def fnChainHoldsUptoCard : Claim7 := { stood := { row := fnChainHoldsUptoRow, standIns := [], harness := (true, "6b22d0b67bc171b43e9bfb5c88b3c7120b9fb5a69a027ab593f80e0dbfe20da8"), looks := false }, kinds := [], alts := [], laidByText := true, laidKinds := [.data, .data], laidTests := true, laidLooks := .later }
def FnChainHoldsUptoCardSaid : Prop := Claim7.holds Tryz.pinned (.plain (OpenSpec.upto fnChainHoldsSpec)) fnChainHoldsUptoCard

/-- THE SECOND FORM's CARD OF 'laws.FnChainFails'. -/
def fnChainFailsUptoCard : Claim7 := { stood := { row := fnChainFailsUptoRow, standIns := [], harness := (true, "6b22d0b67bc171b43e9bfb5c88b3c7120b9fb5a69a027ab593f80e0dbfe20da8"), looks := false }, kinds := [], alts := [], laidByText := true, laidKinds := [.data, .data], laidTests := true, laidLooks := .later }
def FnChainFailsUptoCardSaid : Prop := Claim7.holds Tryz.pinned (.plain (OpenSpec.upto fnChainFailsSpec)) fnChainFailsUptoCard

/-- THE SECOND FORM's CARD OF 'laws.FnCertifyAccepted'. -/
def fnCertifyAcceptedUptoCard : Claim7 := { stood := { row := fnCertifyAcceptedUptoRow, standIns := [], harness := (true, "6b22d0b67bc171b43e9bfb5c88b3c7120b9fb5a69a027ab593f80e0dbfe20da8"), looks := false }, kinds := [], alts := [], laidByText := true, laidKinds := [.data, .data], laidTests := true, laidLooks := .later }
def FnCertifyAcceptedUptoCardSaid : Prop := Claim7.holds Tryz.pinned (.plain (OpenSpec.upto fnCertifyAcceptedSpec)) fnCertifyAcceptedUptoCard

/-- THE SECOND FORM's CARD OF 'laws.FnCheckAgainst'. -/
def fnCheckAgainstUptoCard : Claim7 := { stood := { row := fnCheckAgainstUptoRow, standIns := [], harness := (true, "6b22d0b67bc171b43e9bfb5c88b3c7120b9fb5a69a027ab593f80e0dbfe20da8"), looks := false }, kinds := [], alts := [], laidByText := true, laidKinds := [.data, .data], laidTests := true, laidLooks := .later }
def FnCheckAgainstUptoCardSaid : Prop := Claim7.holds Tryz.pinned (.plain (OpenSpec.upto fnCheckAgainstSpec)) fnCheckAgainstUptoCard
end Rows
end Go.Proofs.YtcfchopfijalpaaGreatDoor
