/-
  NARROWER THAN 'FOR EVERY INPUT', by the rows' own cells (each row's printed sentence says how): FnExactCertifyPair: laid · FnExactVerifyChain: laid · FnChainRounds: laid · FnChainSecond: laid · FnChainTurned: laid · FnChainVerdict: laid · FnChainSilent: laid · FnCertifyVerdict: laid · FnChainHolds: laid · FnChainFails: laid · FnCertifyAccepted: laid · FnCheckAgainst: laid.
  DERIVED. THE GIVEN ROWS OF THIS SEAT. 12 by the template 'for every input the law returns true; each argument reads behind the call as it read before'; 0 by the template 'total and deterministic' (their statements: YtcfchopfijalpaaGreatDoorTotals.lean).
  GIVEN WITH THE SEED: the statements are not yours to turn. If you find one false, say at which input.
  Laid BY PROGRAM, IN A SANDBOX (cutbox-rows.mjs): the forced cells as the released guide's own fill.sh prints them over the translation 81600bfd4daecc24… (all of the seat's roots in one cut). By AI agents, Wed Nov 11 2026. No macro, syntax, notation, axiom, sorry.
-/
import Derived.Test.YtcfchopfijalpaaGreatDoorChecked
import GoSem.Claim
import GoSem.ClaimJoined
import GoSem.ClaimMapViews
import Derived.JoinedTies
import Derived.KernelRfl
namespace Go.Proofs.YtcfchopfijalpaaGreatDoor
/- THE CELL 'sum', in the pinned program and in every row, IS THE sha256 OF THE DUMP (.gsa) THAT YtcfchopfijalpaaGreatDoorProg.lean LOADS. Nothing in Lean hashes anything: it is a label: what it is worth is what the hold of that sum in a sandbox is worth. -/
noncomputable def Tryz.pinned : Pinned := { name := "ytcfchopfijalpaagreatdoor", sum := "81600bfd4daecc2434e3cf81197cbd7c5e519d80c1cada4ae3a7dfa9ae9a34d2", checked := Tryz.checked }
namespace Rows
def none {H : Type} : Left H := { results := [], args := [] }

/- WHAT THE LISTED PACKAGE-LEVEL VARIABLES READ AS WHEN THE CALL BEGINS. Each datum BY PROGRAM (the guide's laid-datum.mjs) off the statement by which the dump's own 'gosem.cut.vars' lays the variable. In a bare row this is a premise. The card (YtcfchopfijalpaaGreatDoorCards.lean) ties it to the program's text. -/
def laid_math_bits_deBruijn32tab {H : Type} : DataW H := .agg [.lit (.int .u8 0), .lit (.int .u8 1), .lit (.int .u8 28), .lit (.int .u8 2), .lit (.int .u8 29), .lit (.int .u8 14), .lit (.int .u8 24), .lit (.int .u8 3), .lit (.int .u8 30), .lit (.int .u8 22), .lit (.int .u8 20), .lit (.int .u8 15), .lit (.int .u8 25), .lit (.int .u8 17), .lit (.int .u8 4), .lit (.int .u8 8), .lit (.int .u8 31), .lit (.int .u8 27), .lit (.int .u8 13), .lit (.int .u8 23), .lit (.int .u8 21), .lit (.int .u8 19), .lit (.int .u8 16), .lit (.int .u8 7), .lit (.int .u8 26), .lit (.int .u8 12), .lit (.int .u8 18), .lit (.int .u8 6), .lit (.int .u8 11), .lit (.int .u8 5), .lit (.int .u8 10), .lit (.int .u8 9)]
def laid_math_bits_deBruijn64tab {H : Type} : DataW H := .agg [.lit (.int .u8 0), .lit (.int .u8 1), .lit (.int .u8 56), .lit (.int .u8 2), .lit (.int .u8 57), .lit (.int .u8 49), .lit (.int .u8 28), .lit (.int .u8 3), .lit (.int .u8 61), .lit (.int .u8 58), .lit (.int .u8 42), .lit (.int .u8 50), .lit (.int .u8 38), .lit (.int .u8 29), .lit (.int .u8 17), .lit (.int .u8 4), .lit (.int .u8 62), .lit (.int .u8 47), .lit (.int .u8 59), .lit (.int .u8 36), .lit (.int .u8 45), .lit (.int .u8 43), .lit (.int .u8 51), .lit (.int .u8 22), .lit (.int .u8 53), .lit (.int .u8 39), .lit (.int .u8 33), .lit (.int .u8 30), .lit (.int .u8 24), .lit (.int .u8 18), .lit (.int .u8 12), .lit (.int .u8 5), .lit (.int .u8 63), .lit (.int .u8 55), .lit (.int .u8 48), .lit (.int .u8 27), .lit (.int .u8 60), .lit (.int .u8 41), .lit (.int .u8 37), .lit (.int .u8 16), .lit (.int .u8 46), .lit (.int .u8 35), .lit (.int .u8 44), .lit (.int .u8 21), .lit (.int .u8 52), .lit (.int .u8 32), .lit (.int .u8 23), .lit (.int .u8 11), .lit (.int .u8 54), .lit (.int .u8 26), .lit (.int .u8 40), .lit (.int .u8 15), .lit (.int .u8 34), .lit (.int .u8 20), .lit (.int .u8 31), .lit (.int .u8 10), .lit (.int .u8 25), .lit (.int .u8 14), .lit (.int .u8 19), .lit (.int .u8 9), .lit (.int .u8 13), .lit (.int .u8 8), .lit (.int .u8 7), .lit (.int .u8 6)]

/-- 'laws.FnExactCertifyPair': WHATEVER THE INPUT: true; the input reads as it did. -/
def fnExactCertifyPairSpec : ChangeSpec := { name := "fnExactCertifyPair", fn := fun _ => fun
  | [d1, d2, d3] => { results := [.lit (.bool true)], args := [d1, d2, d3] }
  | _ => none }
def fnExactCertifyPairRow : OpenClaim := { program := "ytcfchopfijalpaagreatdoor", sum := "81600bfd4daecc2434e3cf81197cbd7c5e519d80c1cada4ae3a7dfa9ae9a34d2", func := "loop.example/assumeguarantee/laws.FnExactCertifyPair", spec := "fnExactCertifyPair", unfollowed := true, recurses := true, named := ["math/bits.deBruijn32tab", "math/bits.deBruijn64tab"], plainKeys := false, apart := false, laid := [("math/bits.deBruijn32tab", laid_math_bits_deBruijn32tab), ("math/bits.deBruijn64tab", laid_math_bits_deBruijn64tab)] }
def FnExactCertifyPairSaid : Prop := fnExactCertifyPairRow.holds Tryz.pinned (OpenSpec.ofChange fnExactCertifyPairSpec)

/-- ITS FALSE NEIGHBOUR: 'it returns false'. Refute it at one input. -/
def fnExactCertifyPairWrong : ChangeSpec := { name := "fnExactCertifyPair", fn := fun _ => fun
  | [d1, d2, d3] => { results := [.lit (.bool false)], args := [d1, d2, d3] }
  | _ => none }
def FnExactCertifyPairWrongFalsely : Prop := fnExactCertifyPairRow.holds Tryz.pinned (OpenSpec.ofChange fnExactCertifyPairWrong)

/-- 'laws.FnExactVerifyChain': WHATEVER THE INPUT: true; the input reads as it did. -/
def fnExactVerifyChainSpec : ChangeSpec := { name := "fnExactVerifyChain", fn := fun _ => fun
  | [d1, d2] => { results := [.lit (.bool true)], args := [d1, d2] }
  | _ => none }
def fnExactVerifyChainRow : OpenClaim := { program := "ytcfchopfijalpaagreatdoor", sum := "81600bfd4daecc2434e3cf81197cbd7c5e519d80c1cada4ae3a7dfa9ae9a34d2", func := "loop.example/assumeguarantee/laws.FnExactVerifyChain", spec := "fnExactVerifyChain", unfollowed := true, recurses := true, named := ["math/bits.deBruijn32tab", "math/bits.deBruijn64tab"], plainKeys := false, apart := false, laid := [("math/bits.deBruijn32tab", laid_math_bits_deBruijn32tab), ("math/bits.deBruijn64tab", laid_math_bits_deBruijn64tab)] }
def FnExactVerifyChainSaid : Prop := fnExactVerifyChainRow.holds Tryz.pinned (OpenSpec.ofChange fnExactVerifyChainSpec)

/-- ITS FALSE NEIGHBOUR: 'it returns false'. Refute it at one input. -/
def fnExactVerifyChainWrong : ChangeSpec := { name := "fnExactVerifyChain", fn := fun _ => fun
  | [d1, d2] => { results := [.lit (.bool false)], args := [d1, d2] }
  | _ => none }
def FnExactVerifyChainWrongFalsely : Prop := fnExactVerifyChainRow.holds Tryz.pinned (OpenSpec.ofChange fnExactVerifyChainWrong)

/-- 'laws.FnChainRounds': WHATEVER THE INPUT: true; the input reads as it did. -/
def fnChainRoundsSpec : ChangeSpec := { name := "fnChainRounds", fn := fun _ => fun
  | [d] => { results := [.lit (.bool true)], args := [d] }
  | _ => none }
def fnChainRoundsRow : OpenClaim := { program := "ytcfchopfijalpaagreatdoor", sum := "81600bfd4daecc2434e3cf81197cbd7c5e519d80c1cada4ae3a7dfa9ae9a34d2", func := "loop.example/assumeguarantee/laws.FnChainRounds", spec := "fnChainRounds", unfollowed := true, recurses := true, named := ["math/bits.deBruijn32tab", "math/bits.deBruijn64tab"], plainKeys := false, apart := false, laid := [("math/bits.deBruijn32tab", laid_math_bits_deBruijn32tab), ("math/bits.deBruijn64tab", laid_math_bits_deBruijn64tab)] }
def FnChainRoundsSaid : Prop := fnChainRoundsRow.holds Tryz.pinned (OpenSpec.ofChange fnChainRoundsSpec)

/-- ITS FALSE NEIGHBOUR: 'it returns false'. Refute it at one input. -/
def fnChainRoundsWrong : ChangeSpec := { name := "fnChainRounds", fn := fun _ => fun
  | [d] => { results := [.lit (.bool false)], args := [d] }
  | _ => none }
def FnChainRoundsWrongFalsely : Prop := fnChainRoundsRow.holds Tryz.pinned (OpenSpec.ofChange fnChainRoundsWrong)

/-- 'laws.FnChainSecond': WHATEVER THE INPUT: true; the input reads as it did. -/
def fnChainSecondSpec : ChangeSpec := { name := "fnChainSecond", fn := fun _ => fun
  | [d] => { results := [.lit (.bool true)], args := [d] }
  | _ => none }
def fnChainSecondRow : OpenClaim := { program := "ytcfchopfijalpaagreatdoor", sum := "81600bfd4daecc2434e3cf81197cbd7c5e519d80c1cada4ae3a7dfa9ae9a34d2", func := "loop.example/assumeguarantee/laws.FnChainSecond", spec := "fnChainSecond", unfollowed := true, recurses := true, named := ["math/bits.deBruijn32tab", "math/bits.deBruijn64tab"], plainKeys := false, apart := false, laid := [("math/bits.deBruijn32tab", laid_math_bits_deBruijn32tab), ("math/bits.deBruijn64tab", laid_math_bits_deBruijn64tab)] }
def FnChainSecondSaid : Prop := fnChainSecondRow.holds Tryz.pinned (OpenSpec.ofChange fnChainSecondSpec)

/-- ITS FALSE NEIGHBOUR: 'it returns false'. Refute it at one input. -/
def fnChainSecondWrong : ChangeSpec := { name := "fnChainSecond", fn := fun _ => fun
  | [d] => { results := [.lit (.bool false)], args := [d] }
  | _ => none }
def FnChainSecondWrongFalsely : Prop := fnChainSecondRow.holds Tryz.pinned (OpenSpec.ofChange fnChainSecondWrong)

/-- 'laws.FnChainTurned': WHATEVER THE INPUT: true; the input reads as it did. -/
def fnChainTurnedSpec : ChangeSpec := { name := "fnChainTurned", fn := fun _ => fun
  | [d] => { results := [.lit (.bool true)], args := [d] }
  | _ => none }
def fnChainTurnedRow : OpenClaim := { program := "ytcfchopfijalpaagreatdoor", sum := "81600bfd4daecc2434e3cf81197cbd7c5e519d80c1cada4ae3a7dfa9ae9a34d2", func := "loop.example/assumeguarantee/laws.FnChainTurned", spec := "fnChainTurned", unfollowed := true, recurses := true, named := ["math/bits.deBruijn32tab", "math/bits.deBruijn64tab"], plainKeys := false, apart := false, laid := [("math/bits.deBruijn32tab", laid_math_bits_deBruijn32tab), ("math/bits.deBruijn64tab", laid_math_bits_deBruijn64tab)] }
def FnChainTurnedSaid : Prop := fnChainTurnedRow.holds Tryz.pinned (OpenSpec.ofChange fnChainTurnedSpec)

/-- ITS FALSE NEIGHBOUR: 'it returns false'. Refute it at one input. -/
def fnChainTurnedWrong : ChangeSpec := { name := "fnChainTurned", fn := fun _ => fun
  | [d] => { results := [.lit (.bool false)], args := [d] }
  | _ => none }
def FnChainTurnedWrongFalsely : Prop := fnChainTurnedRow.holds Tryz.pinned (OpenSpec.ofChange fnChainTurnedWrong)

/-- 'laws.FnChainVerdict': WHATEVER THE INPUT: true; the input reads as it did. -/
def fnChainVerdictSpec : ChangeSpec := { name := "fnChainVerdict", fn := fun _ => fun
  | [d] => { results := [.lit (.bool true)], args := [d] }
  | _ => none }
def fnChainVerdictRow : OpenClaim := { program := "ytcfchopfijalpaagreatdoor", sum := "81600bfd4daecc2434e3cf81197cbd7c5e519d80c1cada4ae3a7dfa9ae9a34d2", func := "loop.example/assumeguarantee/laws.FnChainVerdict", spec := "fnChainVerdict", unfollowed := true, recurses := true, named := ["math/bits.deBruijn32tab", "math/bits.deBruijn64tab"], plainKeys := false, apart := false, laid := [("math/bits.deBruijn32tab", laid_math_bits_deBruijn32tab), ("math/bits.deBruijn64tab", laid_math_bits_deBruijn64tab)] }
def FnChainVerdictSaid : Prop := fnChainVerdictRow.holds Tryz.pinned (OpenSpec.ofChange fnChainVerdictSpec)

/-- ITS FALSE NEIGHBOUR: 'it returns false'. Refute it at one input. -/
def fnChainVerdictWrong : ChangeSpec := { name := "fnChainVerdict", fn := fun _ => fun
  | [d] => { results := [.lit (.bool false)], args := [d] }
  | _ => none }
def FnChainVerdictWrongFalsely : Prop := fnChainVerdictRow.holds Tryz.pinned (OpenSpec.ofChange fnChainVerdictWrong)

/-- 'laws.FnChainSilent': WHATEVER THE INPUT: true; the input reads as it did. -/
def fnChainSilentSpec : ChangeSpec := { name := "fnChainSilent", fn := fun _ => fun
  | [d] => { results := [.lit (.bool true)], args := [d] }
  | _ => none }
def fnChainSilentRow : OpenClaim := { program := "ytcfchopfijalpaagreatdoor", sum := "81600bfd4daecc2434e3cf81197cbd7c5e519d80c1cada4ae3a7dfa9ae9a34d2", func := "loop.example/assumeguarantee/laws.FnChainSilent", spec := "fnChainSilent", unfollowed := true, recurses := true, named := ["math/bits.deBruijn32tab", "math/bits.deBruijn64tab"], plainKeys := false, apart := false, laid := [("math/bits.deBruijn32tab", laid_math_bits_deBruijn32tab), ("math/bits.deBruijn64tab", laid_math_bits_deBruijn64tab)] }
def FnChainSilentSaid : Prop := fnChainSilentRow.holds Tryz.pinned (OpenSpec.ofChange fnChainSilentSpec)

/-- ITS FALSE NEIGHBOUR: 'it returns false'. Refute it at one input. -/
def fnChainSilentWrong : ChangeSpec := { name := "fnChainSilent", fn := fun _ => fun
  | [d] => { results := [.lit (.bool false)], args := [d] }
  | _ => none }
def FnChainSilentWrongFalsely : Prop := fnChainSilentRow.holds Tryz.pinned (OpenSpec.ofChange fnChainSilentWrong)

/-- 'laws.FnCertifyVerdict': WHATEVER THE INPUT: true; the input reads as it did. -/
def fnCertifyVerdictSpec : ChangeSpec := { name := "fnCertifyVerdict", fn := fun _ => fun
  | [d] => { results := [.lit (.bool true)], args := [d] }
  | _ => none }
def fnCertifyVerdictRow : OpenClaim := { program := "ytcfchopfijalpaagreatdoor", sum := "81600bfd4daecc2434e3cf81197cbd7c5e519d80c1cada4ae3a7dfa9ae9a34d2", func := "loop.example/assumeguarantee/laws.FnCertifyVerdict", spec := "fnCertifyVerdict", unfollowed := true, recurses := true, named := ["math/bits.deBruijn32tab", "math/bits.deBruijn64tab"], plainKeys := false, apart := false, laid := [("math/bits.deBruijn32tab", laid_math_bits_deBruijn32tab), ("math/bits.deBruijn64tab", laid_math_bits_deBruijn64tab)] }
def FnCertifyVerdictSaid : Prop := fnCertifyVerdictRow.holds Tryz.pinned (OpenSpec.ofChange fnCertifyVerdictSpec)

/-- ITS FALSE NEIGHBOUR: 'it returns false'. Refute it at one input. -/
def fnCertifyVerdictWrong : ChangeSpec := { name := "fnCertifyVerdict", fn := fun _ => fun
  | [d] => { results := [.lit (.bool false)], args := [d] }
  | _ => none }
def FnCertifyVerdictWrongFalsely : Prop := fnCertifyVerdictRow.holds Tryz.pinned (OpenSpec.ofChange fnCertifyVerdictWrong)

/-- 'laws.FnChainHolds': WHATEVER THE INPUT: true; the input reads as it did. -/
def fnChainHoldsSpec : ChangeSpec := { name := "fnChainHolds", fn := fun _ => fun
  | [d] => { results := [.lit (.bool true)], args := [d] }
  | _ => none }
def fnChainHoldsRow : OpenClaim := { program := "ytcfchopfijalpaagreatdoor", sum := "81600bfd4daecc2434e3cf81197cbd7c5e519d80c1cada4ae3a7dfa9ae9a34d2", func := "loop.example/assumeguarantee/laws.FnChainHolds", spec := "fnChainHolds", unfollowed := true, recurses := true, named := ["math/bits.deBruijn32tab", "math/bits.deBruijn64tab"], plainKeys := false, apart := false, laid := [("math/bits.deBruijn32tab", laid_math_bits_deBruijn32tab), ("math/bits.deBruijn64tab", laid_math_bits_deBruijn64tab)] }
def FnChainHoldsSaid : Prop := fnChainHoldsRow.holds Tryz.pinned (OpenSpec.ofChange fnChainHoldsSpec)

/-- ITS FALSE NEIGHBOUR: 'it returns false'. Refute it at one input. -/
def fnChainHoldsWrong : ChangeSpec := { name := "fnChainHolds", fn := fun _ => fun
  | [d] => { results := [.lit (.bool false)], args := [d] }
  | _ => none }
def FnChainHoldsWrongFalsely : Prop := fnChainHoldsRow.holds Tryz.pinned (OpenSpec.ofChange fnChainHoldsWrong)

/-- 'laws.FnChainFails': WHATEVER THE INPUT: true; the input reads as it did. -/
def fnChainFailsSpec : ChangeSpec := { name := "fnChainFails", fn := fun _ => fun
  | [d] => { results := [.lit (.bool true)], args := [d] }
  | _ => none }
def fnChainFailsRow : OpenClaim := { program := "ytcfchopfijalpaagreatdoor", sum := "81600bfd4daecc2434e3cf81197cbd7c5e519d80c1cada4ae3a7dfa9ae9a34d2", func := "loop.example/assumeguarantee/laws.FnChainFails", spec := "fnChainFails", unfollowed := true, recurses := true, named := ["math/bits.deBruijn32tab", "math/bits.deBruijn64tab"], plainKeys := false, apart := false, laid := [("math/bits.deBruijn32tab", laid_math_bits_deBruijn32tab), ("math/bits.deBruijn64tab", laid_math_bits_deBruijn64tab)] }
def FnChainFailsSaid : Prop := fnChainFailsRow.holds Tryz.pinned (OpenSpec.ofChange fnChainFailsSpec)

/-- ITS FALSE NEIGHBOUR: 'it returns false'. Refute it at one input. -/
def fnChainFailsWrong : ChangeSpec := { name := "fnChainFails", fn := fun _ => fun
  | [d] => { results := [.lit (.bool false)], args := [d] }
  | _ => none }
def FnChainFailsWrongFalsely : Prop := fnChainFailsRow.holds Tryz.pinned (OpenSpec.ofChange fnChainFailsWrong)

/-- 'laws.FnCertifyAccepted': WHATEVER THE INPUT: true; the input reads as it did. -/
def fnCertifyAcceptedSpec : ChangeSpec := { name := "fnCertifyAccepted", fn := fun _ => fun
  | [d] => { results := [.lit (.bool true)], args := [d] }
  | _ => none }
def fnCertifyAcceptedRow : OpenClaim := { program := "ytcfchopfijalpaagreatdoor", sum := "81600bfd4daecc2434e3cf81197cbd7c5e519d80c1cada4ae3a7dfa9ae9a34d2", func := "loop.example/assumeguarantee/laws.FnCertifyAccepted", spec := "fnCertifyAccepted", unfollowed := true, recurses := true, named := ["math/bits.deBruijn32tab", "math/bits.deBruijn64tab"], plainKeys := false, apart := false, laid := [("math/bits.deBruijn32tab", laid_math_bits_deBruijn32tab), ("math/bits.deBruijn64tab", laid_math_bits_deBruijn64tab)] }
def FnCertifyAcceptedSaid : Prop := fnCertifyAcceptedRow.holds Tryz.pinned (OpenSpec.ofChange fnCertifyAcceptedSpec)

/-- ITS FALSE NEIGHBOUR: 'it returns false'. Refute it at one input. -/
def fnCertifyAcceptedWrong : ChangeSpec := { name := "fnCertifyAccepted", fn := fun _ => fun
  | [d] => { results := [.lit (.bool false)], args := [d] }
  | _ => none }
def FnCertifyAcceptedWrongFalsely : Prop := fnCertifyAcceptedRow.holds Tryz.pinned (OpenSpec.ofChange fnCertifyAcceptedWrong)

/-- 'laws.FnCheckAgainst': WHATEVER THE INPUT: true; the input reads as it did. -/
def fnCheckAgainstSpec : ChangeSpec := { name := "fnCheckAgainst", fn := fun _ => fun
  | [d1, d2] => { results := [.lit (.bool true)], args := [d1, d2] }
  | _ => none }
def fnCheckAgainstRow : OpenClaim := { program := "ytcfchopfijalpaagreatdoor", sum := "81600bfd4daecc2434e3cf81197cbd7c5e519d80c1cada4ae3a7dfa9ae9a34d2", func := "loop.example/assumeguarantee/laws.FnCheckAgainst", spec := "fnCheckAgainst", unfollowed := true, recurses := true, named := ["math/bits.deBruijn32tab", "math/bits.deBruijn64tab"], plainKeys := false, apart := false, laid := [("math/bits.deBruijn32tab", laid_math_bits_deBruijn32tab), ("math/bits.deBruijn64tab", laid_math_bits_deBruijn64tab)] }
def FnCheckAgainstSaid : Prop := fnCheckAgainstRow.holds Tryz.pinned (OpenSpec.ofChange fnCheckAgainstSpec)

/-- ITS FALSE NEIGHBOUR: 'it returns false'. Refute it at one input. -/
def fnCheckAgainstWrong : ChangeSpec := { name := "fnCheckAgainst", fn := fun _ => fun
  | [d1, d2] => { results := [.lit (.bool false)], args := [d1, d2] }
  | _ => none }
def FnCheckAgainstWrongFalsely : Prop := fnCheckAgainstRow.holds Tryz.pinned (OpenSpec.ofChange fnCheckAgainstWrong)

/- THE SECOND FORM. 'bulk': how many values and letters a reading holds, each counted each time it is reached (what is shared counts as often as it is met; a slice's spare places count too). A statement '..UptoSaid' is the law's where the arguments, and the package variables that the reading takes, are together of bulk at most 1048576: NARROWER than '..Said'. Prove '..Said' where nothing that the law and all that it calls make is longer than what came in: it says more and counts as full. Else prove '..UptoSaid'. A law counts once. -/
mutual
def uptoBulk {H : Type} : DataW H → Nat
  | .lit (.string bytes) => bytes.length + 1
  | .lit _ => 1
  | .nil => 1
  | .ptr d => uptoBulk d + 1
  | .slice elems spare => uptoBulkAll elems + uptoBulkAll spare + 1
  | .agg parts => uptoBulkAll parts + 1
  | .iface _ d => uptoBulk d + 1
  | .map entries => uptoBulkEntries entries + 1
  | .held _ => 1
def uptoBulkAll {H : Type} : List (DataW H) → Nat
  | [] => 0
  | d :: r => uptoBulk d + uptoBulkAll r
def uptoBulkEntries {H : Type} : List (Lit × DataW H) → Nat
  | [] => 0
  | x :: r => uptoBulkEntry x + uptoBulkEntries r
def uptoBulkEntry {H : Type} : Lit × DataW H → Nat
  | (.string bytes, d) => bytes.length + uptoBulk d + 1
  | (_, d) => uptoBulk d + 1
 end
def uptoSmall : (H : Type) → List (DataW H) → Bool := fun _ ds => decide (uptoBulkAll ds ≤ 1048576)
def OpenSpec.upto (s : _root_.Go.ChangeSpec) : _root_.Go.OpenSpec := { _root_.Go.OpenSpec.ofChange s with cond := some uptoSmall }

/-- 'laws.FnExactCertifyPair', WHERE WHAT IT READS IS OF BULK AT MOST 1048576: true; the input reads as it did. -/
def fnExactCertifyPairUptoRow : OpenClaim := { program := "ytcfchopfijalpaagreatdoor", sum := "81600bfd4daecc2434e3cf81197cbd7c5e519d80c1cada4ae3a7dfa9ae9a34d2", func := "loop.example/assumeguarantee/laws.FnExactCertifyPair", spec := "fnExactCertifyPair", unfollowed := true, recurses := true, named := ["math/bits.deBruijn32tab", "math/bits.deBruijn64tab"], plainKeys := false, apart := false, laid := [("math/bits.deBruijn32tab", laid_math_bits_deBruijn32tab), ("math/bits.deBruijn64tab", laid_math_bits_deBruijn64tab)], narrowed := true }
def FnExactCertifyPairUptoSaid : Prop := fnExactCertifyPairUptoRow.holds Tryz.pinned (OpenSpec.upto fnExactCertifyPairSpec)

/-- 'laws.FnExactVerifyChain', WHERE WHAT IT READS IS OF BULK AT MOST 1048576: true; the input reads as it did. -/
def fnExactVerifyChainUptoRow : OpenClaim := { program := "ytcfchopfijalpaagreatdoor", sum := "81600bfd4daecc2434e3cf81197cbd7c5e519d80c1cada4ae3a7dfa9ae9a34d2", func := "loop.example/assumeguarantee/laws.FnExactVerifyChain", spec := "fnExactVerifyChain", unfollowed := true, recurses := true, named := ["math/bits.deBruijn32tab", "math/bits.deBruijn64tab"], plainKeys := false, apart := false, laid := [("math/bits.deBruijn32tab", laid_math_bits_deBruijn32tab), ("math/bits.deBruijn64tab", laid_math_bits_deBruijn64tab)], narrowed := true }
def FnExactVerifyChainUptoSaid : Prop := fnExactVerifyChainUptoRow.holds Tryz.pinned (OpenSpec.upto fnExactVerifyChainSpec)

/-- 'laws.FnChainRounds', WHERE WHAT IT READS IS OF BULK AT MOST 1048576: true; the input reads as it did. -/
def fnChainRoundsUptoRow : OpenClaim := { program := "ytcfchopfijalpaagreatdoor", sum := "81600bfd4daecc2434e3cf81197cbd7c5e519d80c1cada4ae3a7dfa9ae9a34d2", func := "loop.example/assumeguarantee/laws.FnChainRounds", spec := "fnChainRounds", unfollowed := true, recurses := true, named := ["math/bits.deBruijn32tab", "math/bits.deBruijn64tab"], plainKeys := false, apart := false, laid := [("math/bits.deBruijn32tab", laid_math_bits_deBruijn32tab), ("math/bits.deBruijn64tab", laid_math_bits_deBruijn64tab)], narrowed := true }
def FnChainRoundsUptoSaid : Prop := fnChainRoundsUptoRow.holds Tryz.pinned (OpenSpec.upto fnChainRoundsSpec)

/-- 'laws.FnChainSecond', WHERE WHAT IT READS IS OF BULK AT MOST 1048576: true; the input reads as it did. -/
def fnChainSecondUptoRow : OpenClaim := { program := "ytcfchopfijalpaagreatdoor", sum := "81600bfd4daecc2434e3cf81197cbd7c5e519d80c1cada4ae3a7dfa9ae9a34d2", func := "loop.example/assumeguarantee/laws.FnChainSecond", spec := "fnChainSecond", unfollowed := true, recurses := true, named := ["math/bits.deBruijn32tab", "math/bits.deBruijn64tab"], plainKeys := false, apart := false, laid := [("math/bits.deBruijn32tab", laid_math_bits_deBruijn32tab), ("math/bits.deBruijn64tab", laid_math_bits_deBruijn64tab)], narrowed := true }
def FnChainSecondUptoSaid : Prop := fnChainSecondUptoRow.holds Tryz.pinned (OpenSpec.upto fnChainSecondSpec)

/-- 'laws.FnChainTurned', WHERE WHAT IT READS IS OF BULK AT MOST 1048576: true; the input reads as it did. -/
def fnChainTurnedUptoRow : OpenClaim := { program := "ytcfchopfijalpaagreatdoor", sum := "81600bfd4daecc2434e3cf81197cbd7c5e519d80c1cada4ae3a7dfa9ae9a34d2", func := "loop.example/assumeguarantee/laws.FnChainTurned", spec := "fnChainTurned", unfollowed := true, recurses := true, named := ["math/bits.deBruijn32tab", "math/bits.deBruijn64tab"], plainKeys := false, apart := false, laid := [("math/bits.deBruijn32tab", laid_math_bits_deBruijn32tab), ("math/bits.deBruijn64tab", laid_math_bits_deBruijn64tab)], narrowed := true }
def FnChainTurnedUptoSaid : Prop := fnChainTurnedUptoRow.holds Tryz.pinned (OpenSpec.upto fnChainTurnedSpec)

/-- 'laws.FnChainVerdict', WHERE WHAT IT READS IS OF BULK AT MOST 1048576: true; the input reads as it did. -/
def fnChainVerdictUptoRow : OpenClaim := { program := "ytcfchopfijalpaagreatdoor", sum := "81600bfd4daecc2434e3cf81197cbd7c5e519d80c1cada4ae3a7dfa9ae9a34d2", func := "loop.example/assumeguarantee/laws.FnChainVerdict", spec := "fnChainVerdict", unfollowed := true, recurses := true, named := ["math/bits.deBruijn32tab", "math/bits.deBruijn64tab"], plainKeys := false, apart := false, laid := [("math/bits.deBruijn32tab", laid_math_bits_deBruijn32tab), ("math/bits.deBruijn64tab", laid_math_bits_deBruijn64tab)], narrowed := true }
def FnChainVerdictUptoSaid : Prop := fnChainVerdictUptoRow.holds Tryz.pinned (OpenSpec.upto fnChainVerdictSpec)

/-- 'laws.FnChainSilent', WHERE WHAT IT READS IS OF BULK AT MOST 1048576: true; the input reads as it did. -/
def fnChainSilentUptoRow : OpenClaim := { program := "ytcfchopfijalpaagreatdoor", sum := "81600bfd4daecc2434e3cf81197cbd7c5e519d80c1cada4ae3a7dfa9ae9a34d2", func := "loop.example/assumeguarantee/laws.FnChainSilent", spec := "fnChainSilent", unfollowed := true, recurses := true, named := ["math/bits.deBruijn32tab", "math/bits.deBruijn64tab"], plainKeys := false, apart := false, laid := [("math/bits.deBruijn32tab", laid_math_bits_deBruijn32tab), ("math/bits.deBruijn64tab", laid_math_bits_deBruijn64tab)], narrowed := true }
def FnChainSilentUptoSaid : Prop := fnChainSilentUptoRow.holds Tryz.pinned (OpenSpec.upto fnChainSilentSpec)

/-- 'laws.FnCertifyVerdict', WHERE WHAT IT READS IS OF BULK AT MOST 1048576: true; the input reads as it did. -/
def fnCertifyVerdictUptoRow : OpenClaim := { program := "ytcfchopfijalpaagreatdoor", sum := "81600bfd4daecc2434e3cf81197cbd7c5e519d80c1cada4ae3a7dfa9ae9a34d2", func := "loop.example/assumeguarantee/laws.FnCertifyVerdict", spec := "fnCertifyVerdict", unfollowed := true, recurses := true, named := ["math/bits.deBruijn32tab", "math/bits.deBruijn64tab"], plainKeys := false, apart := false, laid := [("math/bits.deBruijn32tab", laid_math_bits_deBruijn32tab), ("math/bits.deBruijn64tab", laid_math_bits_deBruijn64tab)], narrowed := true }
def FnCertifyVerdictUptoSaid : Prop := fnCertifyVerdictUptoRow.holds Tryz.pinned (OpenSpec.upto fnCertifyVerdictSpec)

/-- 'laws.FnChainHolds', WHERE WHAT IT READS IS OF BULK AT MOST 1048576: true; the input reads as it did. -/
def fnChainHoldsUptoRow : OpenClaim := { program := "ytcfchopfijalpaagreatdoor", sum := "81600bfd4daecc2434e3cf81197cbd7c5e519d80c1cada4ae3a7dfa9ae9a34d2", func := "loop.example/assumeguarantee/laws.FnChainHolds", spec := "fnChainHolds", unfollowed := true, recurses := true, named := ["math/bits.deBruijn32tab", "math/bits.deBruijn64tab"], plainKeys := false, apart := false, laid := [("math/bits.deBruijn32tab", laid_math_bits_deBruijn32tab), ("math/bits.deBruijn64tab", laid_math_bits_deBruijn64tab)], narrowed := true }
def FnChainHoldsUptoSaid : Prop := fnChainHoldsUptoRow.holds Tryz.pinned (OpenSpec.upto fnChainHoldsSpec)

/-- 'laws.FnChainFails', WHERE WHAT IT READS IS OF BULK AT MOST 1048576: true; the input reads as it did. -/
def fnChainFailsUptoRow : OpenClaim := { program := "ytcfchopfijalpaagreatdoor", sum := "81600bfd4daecc2434e3cf81197cbd7c5e519d80c1cada4ae3a7dfa9ae9a34d2", func := "loop.example/assumeguarantee/laws.FnChainFails", spec := "fnChainFails", unfollowed := true, recurses := true, named := ["math/bits.deBruijn32tab", "math/bits.deBruijn64tab"], plainKeys := false, apart := false, laid := [("math/bits.deBruijn32tab", laid_math_bits_deBruijn32tab), ("math/bits.deBruijn64tab", laid_math_bits_deBruijn64tab)], narrowed := true }
def FnChainFailsUptoSaid : Prop := fnChainFailsUptoRow.holds Tryz.pinned (OpenSpec.upto fnChainFailsSpec)

/-- 'laws.FnCertifyAccepted', WHERE WHAT IT READS IS OF BULK AT MOST 1048576: true; the input reads as it did. -/
def fnCertifyAcceptedUptoRow : OpenClaim := { program := "ytcfchopfijalpaagreatdoor", sum := "81600bfd4daecc2434e3cf81197cbd7c5e519d80c1cada4ae3a7dfa9ae9a34d2", func := "loop.example/assumeguarantee/laws.FnCertifyAccepted", spec := "fnCertifyAccepted", unfollowed := true, recurses := true, named := ["math/bits.deBruijn32tab", "math/bits.deBruijn64tab"], plainKeys := false, apart := false, laid := [("math/bits.deBruijn32tab", laid_math_bits_deBruijn32tab), ("math/bits.deBruijn64tab", laid_math_bits_deBruijn64tab)], narrowed := true }
def FnCertifyAcceptedUptoSaid : Prop := fnCertifyAcceptedUptoRow.holds Tryz.pinned (OpenSpec.upto fnCertifyAcceptedSpec)

/-- 'laws.FnCheckAgainst', WHERE WHAT IT READS IS OF BULK AT MOST 1048576: true; the input reads as it did. -/
def fnCheckAgainstUptoRow : OpenClaim := { program := "ytcfchopfijalpaagreatdoor", sum := "81600bfd4daecc2434e3cf81197cbd7c5e519d80c1cada4ae3a7dfa9ae9a34d2", func := "loop.example/assumeguarantee/laws.FnCheckAgainst", spec := "fnCheckAgainst", unfollowed := true, recurses := true, named := ["math/bits.deBruijn32tab", "math/bits.deBruijn64tab"], plainKeys := false, apart := false, laid := [("math/bits.deBruijn32tab", laid_math_bits_deBruijn32tab), ("math/bits.deBruijn64tab", laid_math_bits_deBruijn64tab)], narrowed := true }
def FnCheckAgainstUptoSaid : Prop := fnCheckAgainstUptoRow.holds Tryz.pinned (OpenSpec.upto fnCheckAgainstSpec)

end Rows
end Go.Proofs.YtcfchopfijalpaaGreatDoor
