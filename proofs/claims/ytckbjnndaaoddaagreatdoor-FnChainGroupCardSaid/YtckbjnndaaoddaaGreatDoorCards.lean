/-
  DERIVED. GIVEN WITH THE SEED: THE CARDS: each row of YtckbjnndaaoddaaGreatDoorRows.lean that lists a variable, with what it lists TIED to the program's text (the seventh form; the later family's looks); each row that meets fmt, with fmt's text TOLD by the authors' own Lean function (tested against real Go, not proved from fmt's source: count such statements apart). THE CARD IS WHAT COUNTS. Prove the row's statement (the work); the ties are given (YtckbjnndaaoddaaGreatDoorTie.lean); close each card by the builder's one call (the guide's Derived/Test/ToyasCard.lean, 'card_holds'). Laid BY PROGRAM, IN A SANDBOX (cutbox-door.mjs). By AI agents, Wed Nov 11 2026. No macro, syntax, notation, axiom, sorry.
-/
import Derived.Test.YtckbjnndaaoddaaGreatDoorRows
import GoSem.ClaimSeven
namespace Go.Proofs.YtckbjnndaaoddaaGreatDoor
namespace Rows

/-- THE TIED CARD OF 'laws.FnChainGroup'. -/
def fnChainGroupCard : Claim7 := { stood := { row := fnChainGroupRow, standIns := [], harness := (true, "bdf1789aad60a3d712b9ae5ccdd5bcc8f25c86e07e96b12c2c3c17451d746298"), looks := false }, kinds := [], alts := [], laidByText := true, laidKinds := [.data, .data], laidTests := true, laidLooks := .later }
def FnChainGroupCardSaid : Prop := Claim7.holds Tryz.pinned (.plain (OpenSpec.ofChange fnChainGroupSpec)) fnChainGroupCard

/-- THE TIED CARD OF 'laws.FnChainFault'. -/
def fnChainFaultCard : Claim7 := { stood := { row := fnChainFaultRow, standIns := [], harness := (true, "bdf1789aad60a3d712b9ae5ccdd5bcc8f25c86e07e96b12c2c3c17451d746298"), looks := false }, kinds := [], alts := [], laidByText := true, laidKinds := [.data, .data], laidTests := true, laidLooks := .later }
def FnChainFaultCardSaid : Prop := Claim7.holds Tryz.pinned (.plain (OpenSpec.ofChange fnChainFaultSpec)) fnChainFaultCard

/-- THE TIED CARD OF 'laws.FnChainFewer'. -/
def fnChainFewerCard : Claim7 := { stood := { row := fnChainFewerRow, standIns := [], harness := (true, "bdf1789aad60a3d712b9ae5ccdd5bcc8f25c86e07e96b12c2c3c17451d746298"), looks := false }, kinds := [], alts := [], laidByText := true, laidKinds := [.data, .data], laidTests := true, laidLooks := .later }
def FnChainFewerCardSaid : Prop := Claim7.holds Tryz.pinned (.plain (OpenSpec.ofChange fnChainFewerSpec)) fnChainFewerCard

/-- THE TIED CARD OF 'laws.FnChainSound'. -/
def fnChainSoundCard : Claim7 := { stood := { row := fnChainSoundRow, standIns := [], harness := (true, "bdf1789aad60a3d712b9ae5ccdd5bcc8f25c86e07e96b12c2c3c17451d746298"), looks := false }, kinds := [], alts := [], laidByText := true, laidKinds := [.data, .data], laidTests := true, laidLooks := .later }
def FnChainSoundCardSaid : Prop := Claim7.holds Tryz.pinned (.plain (OpenSpec.ofChange fnChainSoundSpec)) fnChainSoundCard

/-- THE TIED CARD OF 'laws.FnChainLinks'. -/
def fnChainLinksCard : Claim7 := { stood := { row := fnChainLinksRow, standIns := [], harness := (true, "bdf1789aad60a3d712b9ae5ccdd5bcc8f25c86e07e96b12c2c3c17451d746298"), looks := false }, kinds := [], alts := [], laidByText := true, laidKinds := [.data, .data], laidTests := true, laidLooks := .later }
def FnChainLinksCardSaid : Prop := Claim7.holds Tryz.pinned (.plain (OpenSpec.ofChange fnChainLinksSpec)) fnChainLinksCard

/-- THE TIED CARD OF 'laws.FnChainHolds'. -/
def fnChainHoldsCard : Claim7 := { stood := { row := fnChainHoldsRow, standIns := [], harness := (true, "bdf1789aad60a3d712b9ae5ccdd5bcc8f25c86e07e96b12c2c3c17451d746298"), looks := false }, kinds := [], alts := [], laidByText := true, laidKinds := [.data, .data], laidTests := true, laidLooks := .later }
def FnChainHoldsCardSaid : Prop := Claim7.holds Tryz.pinned (.plain (OpenSpec.ofChange fnChainHoldsSpec)) fnChainHoldsCard

/-- THE TIED CARD OF 'laws.FnChainFails'. -/
def fnChainFailsCard : Claim7 := { stood := { row := fnChainFailsRow, standIns := [], harness := (true, "bdf1789aad60a3d712b9ae5ccdd5bcc8f25c86e07e96b12c2c3c17451d746298"), looks := false }, kinds := [], alts := [], laidByText := true, laidKinds := [.data, .data], laidTests := true, laidLooks := .later }
def FnChainFailsCardSaid : Prop := Claim7.holds Tryz.pinned (.plain (OpenSpec.ofChange fnChainFailsSpec)) fnChainFailsCard

/-- THE TIED CARD OF 'laws.FnCheckMinimal'. -/
def fnCheckMinimalCard : Claim7 := { stood := { row := fnCheckMinimalRow, standIns := [], harness := (true, "bdf1789aad60a3d712b9ae5ccdd5bcc8f25c86e07e96b12c2c3c17451d746298"), looks := false }, kinds := [], alts := [], laidByText := true, laidKinds := [.data, .data, .data], laidTests := true, laidLooks := .later }
def FnCheckMinimalCardSaid : Prop := Claim7.holds Tryz.pinned (.plain (OpenSpec.ofChange fnCheckMinimalSpec)) fnCheckMinimalCard

/-- THE TIED CARD OF 'laws.FnFaultWeakest'. -/
def fnFaultWeakestCard : Claim7 := { stood := { row := fnFaultWeakestRow, standIns := [], harness := (true, "bdf1789aad60a3d712b9ae5ccdd5bcc8f25c86e07e96b12c2c3c17451d746298"), looks := false }, kinds := [], alts := [], laidByText := true, laidKinds := [.data, .data, .data], laidTests := true, laidLooks := .later }
def FnFaultWeakestCardSaid : Prop := Claim7.holds Tryz.pinned (.plain (OpenSpec.ofChange fnFaultWeakestSpec)) fnFaultWeakestCard

/-- THE TIED CARD OF 'laws.FnVerifyTrim'. -/
def fnVerifyTrimCard : Claim7 := { stood := { row := fnVerifyTrimRow, standIns := [], harness := (true, "bdf1789aad60a3d712b9ae5ccdd5bcc8f25c86e07e96b12c2c3c17451d746298"), looks := false }, kinds := [], alts := [], laidByText := true, laidKinds := [.data, .data, .data], laidTests := true, laidLooks := .later }
def FnVerifyTrimCardSaid : Prop := Claim7.holds Tryz.pinned (.plain (OpenSpec.ofChange fnVerifyTrimSpec)) fnVerifyTrimCard

/-- THE TIED CARD OF 'laws.FnCertifyComplete'. -/
def fnCertifyCompleteCard : Claim7 := { stood := { row := fnCertifyCompleteRow, standIns := [], harness := (true, "bdf1789aad60a3d712b9ae5ccdd5bcc8f25c86e07e96b12c2c3c17451d746298"), looks := false }, kinds := [], alts := [], laidByText := true, laidKinds := [.data, .data, .data], laidTests := true, laidLooks := .later }
def FnCertifyCompleteCardSaid : Prop := Claim7.holds Tryz.pinned (.plain (OpenSpec.ofChange fnCertifyCompleteSpec)) fnCertifyCompleteCard

/-- THE TIED CARD OF 'laws.FnChainTrim'. -/
def fnChainTrimCard : Claim7 := { stood := { row := fnChainTrimRow, standIns := [], harness := (true, "bdf1789aad60a3d712b9ae5ccdd5bcc8f25c86e07e96b12c2c3c17451d746298"), looks := false }, kinds := [], alts := [], laidByText := true, laidKinds := [.data, .data, .data], laidTests := true, laidLooks := .later }
def FnChainTrimCardSaid : Prop := Claim7.holds Tryz.pinned (.plain (OpenSpec.ofChange fnChainTrimSpec)) fnChainTrimCard

/-- THE SECOND FORM's CARD OF 'laws.FnChainGroup'. -/
def fnChainGroupUptoCard : Claim7 := { stood := { row := fnChainGroupUptoRow, standIns := [], harness := (true, "bdf1789aad60a3d712b9ae5ccdd5bcc8f25c86e07e96b12c2c3c17451d746298"), looks := false }, kinds := [], alts := [], laidByText := true, laidKinds := [.data, .data], laidTests := true, laidLooks := .later }
def FnChainGroupUptoCardSaid : Prop := Claim7.holds Tryz.pinned (.plain (OpenSpec.upto fnChainGroupSpec)) fnChainGroupUptoCard

/-- THE SECOND FORM's CARD OF 'laws.FnChainFault'. -/
def fnChainFaultUptoCard : Claim7 := { stood := { row := fnChainFaultUptoRow, standIns := [], harness := (true, "bdf1789aad60a3d712b9ae5ccdd5bcc8f25c86e07e96b12c2c3c17451d746298"), looks := false }, kinds := [], alts := [], laidByText := true, laidKinds := [.data, .data], laidTests := true, laidLooks := .later }
def FnChainFaultUptoCardSaid : Prop := Claim7.holds Tryz.pinned (.plain (OpenSpec.upto fnChainFaultSpec)) fnChainFaultUptoCard

/-- THE SECOND FORM's CARD OF 'laws.FnChainFewer'. -/
def fnChainFewerUptoCard : Claim7 := { stood := { row := fnChainFewerUptoRow, standIns := [], harness := (true, "bdf1789aad60a3d712b9ae5ccdd5bcc8f25c86e07e96b12c2c3c17451d746298"), looks := false }, kinds := [], alts := [], laidByText := true, laidKinds := [.data, .data], laidTests := true, laidLooks := .later }
def FnChainFewerUptoCardSaid : Prop := Claim7.holds Tryz.pinned (.plain (OpenSpec.upto fnChainFewerSpec)) fnChainFewerUptoCard

/-- THE SECOND FORM's CARD OF 'laws.FnChainSound'. -/
def fnChainSoundUptoCard : Claim7 := { stood := { row := fnChainSoundUptoRow, standIns := [], harness := (true, "bdf1789aad60a3d712b9ae5ccdd5bcc8f25c86e07e96b12c2c3c17451d746298"), looks := false }, kinds := [], alts := [], laidByText := true, laidKinds := [.data, .data], laidTests := true, laidLooks := .later }
def FnChainSoundUptoCardSaid : Prop := Claim7.holds Tryz.pinned (.plain (OpenSpec.upto fnChainSoundSpec)) fnChainSoundUptoCard

/-- THE SECOND FORM's CARD OF 'laws.FnChainLinks'. -/
def fnChainLinksUptoCard : Claim7 := { stood := { row := fnChainLinksUptoRow, standIns := [], harness := (true, "bdf1789aad60a3d712b9ae5ccdd5bcc8f25c86e07e96b12c2c3c17451d746298"), looks := false }, kinds := [], alts := [], laidByText := true, laidKinds := [.data, .data], laidTests := true, laidLooks := .later }
def FnChainLinksUptoCardSaid : Prop := Claim7.holds Tryz.pinned (.plain (OpenSpec.upto fnChainLinksSpec)) fnChainLinksUptoCard

/-- THE SECOND FORM's CARD OF 'laws.FnChainHolds'. -/
def fnChainHoldsUptoCard : Claim7 := { stood := { row := fnChainHoldsUptoRow, standIns := [], harness := (true, "bdf1789aad60a3d712b9ae5ccdd5bcc8f25c86e07e96b12c2c3c17451d746298"), looks := false }, kinds := [], alts := [], laidByText := true, laidKinds := [.data, .data], laidTests := true, laidLooks := .later }
def FnChainHoldsUptoCardSaid : Prop := Claim7.holds Tryz.pinned (.plain (OpenSpec.upto fnChainHoldsSpec)) fnChainHoldsUptoCard

/-- THE SECOND FORM's CARD OF 'laws.FnChainFails'. -/
def fnChainFailsUptoCard : Claim7 := { stood := { row := fnChainFailsUptoRow, standIns := [], harness := (true, "bdf1789aad60a3d712b9ae5ccdd5bcc8f25c86e07e96b12c2c3c17451d746298"), looks := false }, kinds := [], alts := [], laidByText := true, laidKinds := [.data, .data], laidTests := true, laidLooks := .later }
def FnChainFailsUptoCardSaid : Prop := Claim7.holds Tryz.pinned (.plain (OpenSpec.upto fnChainFailsSpec)) fnChainFailsUptoCard

/-- THE SECOND FORM's CARD OF 'laws.FnCheckMinimal'. -/
def fnCheckMinimalUptoCard : Claim7 := { stood := { row := fnCheckMinimalUptoRow, standIns := [], harness := (true, "bdf1789aad60a3d712b9ae5ccdd5bcc8f25c86e07e96b12c2c3c17451d746298"), looks := false }, kinds := [], alts := [], laidByText := true, laidKinds := [.data, .data, .data], laidTests := true, laidLooks := .later }
def FnCheckMinimalUptoCardSaid : Prop := Claim7.holds Tryz.pinned (.plain (OpenSpec.upto fnCheckMinimalSpec)) fnCheckMinimalUptoCard

/-- THE SECOND FORM's CARD OF 'laws.FnFaultWeakest'. -/
def fnFaultWeakestUptoCard : Claim7 := { stood := { row := fnFaultWeakestUptoRow, standIns := [], harness := (true, "bdf1789aad60a3d712b9ae5ccdd5bcc8f25c86e07e96b12c2c3c17451d746298"), looks := false }, kinds := [], alts := [], laidByText := true, laidKinds := [.data, .data, .data], laidTests := true, laidLooks := .later }
def FnFaultWeakestUptoCardSaid : Prop := Claim7.holds Tryz.pinned (.plain (OpenSpec.upto fnFaultWeakestSpec)) fnFaultWeakestUptoCard

/-- THE SECOND FORM's CARD OF 'laws.FnVerifyTrim'. -/
def fnVerifyTrimUptoCard : Claim7 := { stood := { row := fnVerifyTrimUptoRow, standIns := [], harness := (true, "bdf1789aad60a3d712b9ae5ccdd5bcc8f25c86e07e96b12c2c3c17451d746298"), looks := false }, kinds := [], alts := [], laidByText := true, laidKinds := [.data, .data, .data], laidTests := true, laidLooks := .later }
def FnVerifyTrimUptoCardSaid : Prop := Claim7.holds Tryz.pinned (.plain (OpenSpec.upto fnVerifyTrimSpec)) fnVerifyTrimUptoCard

/-- THE SECOND FORM's CARD OF 'laws.FnCertifyComplete'. -/
def fnCertifyCompleteUptoCard : Claim7 := { stood := { row := fnCertifyCompleteUptoRow, standIns := [], harness := (true, "bdf1789aad60a3d712b9ae5ccdd5bcc8f25c86e07e96b12c2c3c17451d746298"), looks := false }, kinds := [], alts := [], laidByText := true, laidKinds := [.data, .data, .data], laidTests := true, laidLooks := .later }
def FnCertifyCompleteUptoCardSaid : Prop := Claim7.holds Tryz.pinned (.plain (OpenSpec.upto fnCertifyCompleteSpec)) fnCertifyCompleteUptoCard

/-- THE SECOND FORM's CARD OF 'laws.FnChainTrim'. -/
def fnChainTrimUptoCard : Claim7 := { stood := { row := fnChainTrimUptoRow, standIns := [], harness := (true, "bdf1789aad60a3d712b9ae5ccdd5bcc8f25c86e07e96b12c2c3c17451d746298"), looks := false }, kinds := [], alts := [], laidByText := true, laidKinds := [.data, .data, .data], laidTests := true, laidLooks := .later }
def FnChainTrimUptoCardSaid : Prop := Claim7.holds Tryz.pinned (.plain (OpenSpec.upto fnChainTrimSpec)) fnChainTrimUptoCard
end Rows
end Go.Proofs.YtckbjnndaaoddaaGreatDoor
