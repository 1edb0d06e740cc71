/-
  NARROWER THAN 'FOR EVERY INPUT', by the rows' own cells (each row's printed sentence says how): FnChainGroup: laid · FnChainFault: laid · FnChainFewer: laid · FnChainSound: laid · FnChainLinks: laid · FnChainHolds: laid · FnChainFails: laid · FnCheckMinimal: laid · FnFaultWeakest: laid · FnVerifyTrim: laid · FnCertifyComplete: laid · FnChainTrim: laid.
  DERIVED. THE GIVEN ROWS OF THIS SEAT. 12 by the template 'for every input the law returns true; each argument reads behind the call as it read before'; 0 by the template 'total and deterministic' (their statements: YtckbjnndaaoddaaGreatDoorTotals.lean).
  GIVEN WITH THE SEED: the statements are not yours to turn. If you find one false, say at which input.
  Laid BY PROGRAM, IN A SANDBOX (cutbox-rows.mjs): the forced cells as the released guide's own fill.sh prints them over the translation e45d3eba18b19253… (all of the seat's roots in one cut). By AI agents, Wed Nov 11 2026. No macro, syntax, notation, axiom, sorry.
-/
import Derived.Test.YtckbjnndaaoddaaGreatDoorChecked
import GoSem.Claim
import GoSem.ClaimJoined
import GoSem.ClaimMapViews
import Derived.JoinedTies
import Derived.KernelRfl
namespace Go.Proofs.YtckbjnndaaoddaaGreatDoor
/- THE CELL 'sum', in the pinned program and in every row, IS THE sha256 OF THE DUMP (.gsa) THAT YtckbjnndaaoddaaGreatDoorProg.lean LOADS. Nothing in Lean hashes anything: it is a label: what it is worth is what the hold of that sum in a sandbox is worth. -/
noncomputable def Tryz.pinned : Pinned := { name := "ytckbjnndaaoddaagreatdoor", sum := "e45d3eba18b19253b4aa1bfa04a59541ff3db2778711944996c541ff224d1bc7", checked := Tryz.checked }
namespace Rows
def none {H : Type} : Left H := { results := [], args := [] }

/- WHAT THE LISTED PACKAGE-LEVEL VARIABLES READ AS WHEN THE CALL BEGINS. Each datum BY PROGRAM (the guide's laid-datum.mjs) off the statement by which the dump's own 'gosem.cut.vars' lays the variable. In a bare row this is a premise. The card (YtckbjnndaaoddaaGreatDoorCards.lean) ties it to the program's text. -/
def laid_math_bits_deBruijn32tab {H : Type} : DataW H := .agg [.lit (.int .u8 0), .lit (.int .u8 1), .lit (.int .u8 28), .lit (.int .u8 2), .lit (.int .u8 29), .lit (.int .u8 14), .lit (.int .u8 24), .lit (.int .u8 3), .lit (.int .u8 30), .lit (.int .u8 22), .lit (.int .u8 20), .lit (.int .u8 15), .lit (.int .u8 25), .lit (.int .u8 17), .lit (.int .u8 4), .lit (.int .u8 8), .lit (.int .u8 31), .lit (.int .u8 27), .lit (.int .u8 13), .lit (.int .u8 23), .lit (.int .u8 21), .lit (.int .u8 19), .lit (.int .u8 16), .lit (.int .u8 7), .lit (.int .u8 26), .lit (.int .u8 12), .lit (.int .u8 18), .lit (.int .u8 6), .lit (.int .u8 11), .lit (.int .u8 5), .lit (.int .u8 10), .lit (.int .u8 9)]
def laid_math_bits_deBruijn64tab {H : Type} : DataW H := .agg [.lit (.int .u8 0), .lit (.int .u8 1), .lit (.int .u8 56), .lit (.int .u8 2), .lit (.int .u8 57), .lit (.int .u8 49), .lit (.int .u8 28), .lit (.int .u8 3), .lit (.int .u8 61), .lit (.int .u8 58), .lit (.int .u8 42), .lit (.int .u8 50), .lit (.int .u8 38), .lit (.int .u8 29), .lit (.int .u8 17), .lit (.int .u8 4), .lit (.int .u8 62), .lit (.int .u8 47), .lit (.int .u8 59), .lit (.int .u8 36), .lit (.int .u8 45), .lit (.int .u8 43), .lit (.int .u8 51), .lit (.int .u8 22), .lit (.int .u8 53), .lit (.int .u8 39), .lit (.int .u8 33), .lit (.int .u8 30), .lit (.int .u8 24), .lit (.int .u8 18), .lit (.int .u8 12), .lit (.int .u8 5), .lit (.int .u8 63), .lit (.int .u8 55), .lit (.int .u8 48), .lit (.int .u8 27), .lit (.int .u8 60), .lit (.int .u8 41), .lit (.int .u8 37), .lit (.int .u8 16), .lit (.int .u8 46), .lit (.int .u8 35), .lit (.int .u8 44), .lit (.int .u8 21), .lit (.int .u8 52), .lit (.int .u8 32), .lit (.int .u8 23), .lit (.int .u8 11), .lit (.int .u8 54), .lit (.int .u8 26), .lit (.int .u8 40), .lit (.int .u8 15), .lit (.int .u8 34), .lit (.int .u8 20), .lit (.int .u8 31), .lit (.int .u8 10), .lit (.int .u8 25), .lit (.int .u8 14), .lit (.int .u8 19), .lit (.int .u8 9), .lit (.int .u8 13), .lit (.int .u8 8), .lit (.int .u8 7), .lit (.int .u8 6)]
def laid_internal_strconv_uint64pow10 {H : Type} : DataW H := .agg [.lit (.int .u64 1), .lit (.int .u64 10), .lit (.int .u64 100), .lit (.int .u64 1000), .lit (.int .u64 10000), .lit (.int .u64 100000), .lit (.int .u64 1000000), .lit (.int .u64 10000000), .lit (.int .u64 100000000), .lit (.int .u64 1000000000), .lit (.int .u64 10000000000), .lit (.int .u64 100000000000), .lit (.int .u64 1000000000000), .lit (.int .u64 10000000000000), .lit (.int .u64 100000000000000), .lit (.int .u64 1000000000000000), .lit (.int .u64 10000000000000000), .lit (.int .u64 100000000000000000), .lit (.int .u64 1000000000000000000), .lit (.int .u64 10000000000000000000)]

/-- 'laws.FnChainGroup': WHATEVER THE INPUT: true; the input reads as it did. -/
def fnChainGroupSpec : ChangeSpec := { name := "fnChainGroup", fn := fun _ => fun
  | [d] => { results := [.lit (.bool true)], args := [d] }
  | _ => none }
def fnChainGroupRow : OpenClaim := { program := "ytckbjnndaaoddaagreatdoor", sum := "e45d3eba18b19253b4aa1bfa04a59541ff3db2778711944996c541ff224d1bc7", func := "loop.example/assumeguarantee/laws.FnChainGroup", spec := "fnChainGroup", unfollowed := true, recurses := true, named := ["math/bits.deBruijn32tab", "math/bits.deBruijn64tab"], plainKeys := false, apart := false, laid := [("math/bits.deBruijn32tab", laid_math_bits_deBruijn32tab), ("math/bits.deBruijn64tab", laid_math_bits_deBruijn64tab)] }
def FnChainGroupSaid : Prop := fnChainGroupRow.holds Tryz.pinned (OpenSpec.ofChange fnChainGroupSpec)

/-- ITS FALSE NEIGHBOUR: 'it returns false'. Refute it at one input. -/
def fnChainGroupWrong : ChangeSpec := { name := "fnChainGroup", fn := fun _ => fun
  | [d] => { results := [.lit (.bool false)], args := [d] }
  | _ => none }
def FnChainGroupWrongFalsely : Prop := fnChainGroupRow.holds Tryz.pinned (OpenSpec.ofChange fnChainGroupWrong)

/-- 'laws.FnChainFault': WHATEVER THE INPUT: true; the input reads as it did. -/
def fnChainFaultSpec : ChangeSpec := { name := "fnChainFault", fn := fun _ => fun
  | [d] => { results := [.lit (.bool true)], args := [d] }
  | _ => none }
def fnChainFaultRow : OpenClaim := { program := "ytckbjnndaaoddaagreatdoor", sum := "e45d3eba18b19253b4aa1bfa04a59541ff3db2778711944996c541ff224d1bc7", func := "loop.example/assumeguarantee/laws.FnChainFault", spec := "fnChainFault", unfollowed := true, recurses := true, named := ["math/bits.deBruijn32tab", "math/bits.deBruijn64tab"], plainKeys := false, apart := false, laid := [("math/bits.deBruijn32tab", laid_math_bits_deBruijn32tab), ("math/bits.deBruijn64tab", laid_math_bits_deBruijn64tab)] }
def FnChainFaultSaid : Prop := fnChainFaultRow.holds Tryz.pinned (OpenSpec.ofChange fnChainFaultSpec)

/-- ITS FALSE NEIGHBOUR: 'it returns false'. Refute it at one input. -/
def fnChainFaultWrong : ChangeSpec := { name := "fnChainFault", fn := fun _ => fun
  | [d] => { results := [.lit (.bool false)], args := [d] }
  | _ => none }
def FnChainFaultWrongFalsely : Prop := fnChainFaultRow.holds Tryz.pinned (OpenSpec.ofChange fnChainFaultWrong)

/-- 'laws.FnChainFewer': WHATEVER THE INPUT: true; the input reads as it did. -/
def fnChainFewerSpec : ChangeSpec := { name := "fnChainFewer", fn := fun _ => fun
  | [d] => { results := [.lit (.bool true)], args := [d] }
  | _ => none }
def fnChainFewerRow : OpenClaim := { program := "ytckbjnndaaoddaagreatdoor", sum := "e45d3eba18b19253b4aa1bfa04a59541ff3db2778711944996c541ff224d1bc7", func := "loop.example/assumeguarantee/laws.FnChainFewer", spec := "fnChainFewer", unfollowed := true, recurses := true, named := ["math/bits.deBruijn32tab", "math/bits.deBruijn64tab"], plainKeys := false, apart := false, laid := [("math/bits.deBruijn32tab", laid_math_bits_deBruijn32tab), ("math/bits.deBruijn64tab", laid_math_bits_deBruijn64tab)] }
def FnChainFewerSaid : Prop := fnChainFewerRow.holds Tryz.pinned (OpenSpec.ofChange fnChainFewerSpec)

/-- ITS FALSE NEIGHBOUR: 'it returns false'. Refute it at one input. -/
def fnChainFewerWrong : ChangeSpec := { name := "fnChainFewer", fn := fun _ => fun
  | [d] => { results := [.lit (.bool false)], args := [d] }
  | _ => none }
def FnChainFewerWrongFalsely : Prop := fnChainFewerRow.holds Tryz.pinned (OpenSpec.ofChange fnChainFewerWrong)

/-- 'laws.FnChainSound': WHATEVER THE INPUT: true; the input reads as it did. -/
def fnChainSoundSpec : ChangeSpec := { name := "fnChainSound", fn := fun _ => fun
  | [d] => { results := [.lit (.bool true)], args := [d] }
  | _ => none }
def fnChainSoundRow : OpenClaim := { program := "ytckbjnndaaoddaagreatdoor", sum := "e45d3eba18b19253b4aa1bfa04a59541ff3db2778711944996c541ff224d1bc7", func := "loop.example/assumeguarantee/laws.FnChainSound", spec := "fnChainSound", unfollowed := true, recurses := true, named := ["math/bits.deBruijn32tab", "math/bits.deBruijn64tab"], plainKeys := false, apart := false, laid := [("math/bits.deBruijn32tab", laid_math_bits_deBruijn32tab), ("math/bits.deBruijn64tab", laid_math_bits_deBruijn64tab)] }
def FnChainSoundSaid : Prop := fnChainSoundRow.holds Tryz.pinned (OpenSpec.ofChange fnChainSoundSpec)

/-- ITS FALSE NEIGHBOUR: 'it returns false'. Refute it at one input. -/
def fnChainSoundWrong : ChangeSpec := { name := "fnChainSound", fn := fun _ => fun
  | [d] => { results := [.lit (.bool false)], args := [d] }
  | _ => none }
def FnChainSoundWrongFalsely : Prop := fnChainSoundRow.holds Tryz.pinned (OpenSpec.ofChange fnChainSoundWrong)

/-- 'laws.FnChainLinks': WHATEVER THE INPUT: true; the input reads as it did. -/
def fnChainLinksSpec : ChangeSpec := { name := "fnChainLinks", fn := fun _ => fun
  | [d] => { results := [.lit (.bool true)], args := [d] }
  | _ => none }
def fnChainLinksRow : OpenClaim := { program := "ytckbjnndaaoddaagreatdoor", sum := "e45d3eba18b19253b4aa1bfa04a59541ff3db2778711944996c541ff224d1bc7", func := "loop.example/assumeguarantee/laws.FnChainLinks", spec := "fnChainLinks", unfollowed := true, recurses := true, named := ["math/bits.deBruijn32tab", "math/bits.deBruijn64tab"], plainKeys := false, apart := false, laid := [("math/bits.deBruijn32tab", laid_math_bits_deBruijn32tab), ("math/bits.deBruijn64tab", laid_math_bits_deBruijn64tab)] }
def FnChainLinksSaid : Prop := fnChainLinksRow.holds Tryz.pinned (OpenSpec.ofChange fnChainLinksSpec)

/-- ITS FALSE NEIGHBOUR: 'it returns false'. Refute it at one input. -/
def fnChainLinksWrong : ChangeSpec := { name := "fnChainLinks", fn := fun _ => fun
  | [d] => { results := [.lit (.bool false)], args := [d] }
  | _ => none }
def FnChainLinksWrongFalsely : Prop := fnChainLinksRow.holds Tryz.pinned (OpenSpec.ofChange fnChainLinksWrong)

/-- 'laws.FnChainHolds': WHATEVER THE INPUT: true; the input reads as it did. -/
def fnChainHoldsSpec : ChangeSpec := { name := "fnChainHolds", fn := fun _ => fun
  | [d] => { results := [.lit (.bool true)], args := [d] }
  | _ => none }
def fnChainHoldsRow : OpenClaim := { program := "ytckbjnndaaoddaagreatdoor", sum := "e45d3eba18b19253b4aa1bfa04a59541ff3db2778711944996c541ff224d1bc7", func := "loop.example/assumeguarantee/laws.FnChainHolds", spec := "fnChainHolds", unfollowed := true, recurses := true, named := ["math/bits.deBruijn32tab", "math/bits.deBruijn64tab"], plainKeys := false, apart := false, laid := [("math/bits.deBruijn32tab", laid_math_bits_deBruijn32tab), ("math/bits.deBruijn64tab", laid_math_bits_deBruijn64tab)] }
def FnChainHoldsSaid : Prop := fnChainHoldsRow.holds Tryz.pinned (OpenSpec.ofChange fnChainHoldsSpec)

/-- ITS FALSE NEIGHBOUR: 'it returns false'. Refute it at one input. -/
def fnChainHoldsWrong : ChangeSpec := { name := "fnChainHolds", fn := fun _ => fun
  | [d] => { results := [.lit (.bool false)], args := [d] }
  | _ => none }
def FnChainHoldsWrongFalsely : Prop := fnChainHoldsRow.holds Tryz.pinned (OpenSpec.ofChange fnChainHoldsWrong)

/-- 'laws.FnChainFails': WHATEVER THE INPUT: true; the input reads as it did. -/
def fnChainFailsSpec : ChangeSpec := { name := "fnChainFails", fn := fun _ => fun
  | [d] => { results := [.lit (.bool true)], args := [d] }
  | _ => none }
def fnChainFailsRow : OpenClaim := { program := "ytckbjnndaaoddaagreatdoor", sum := "e45d3eba18b19253b4aa1bfa04a59541ff3db2778711944996c541ff224d1bc7", func := "loop.example/assumeguarantee/laws.FnChainFails", spec := "fnChainFails", unfollowed := true, recurses := true, named := ["math/bits.deBruijn32tab", "math/bits.deBruijn64tab"], plainKeys := false, apart := false, laid := [("math/bits.deBruijn32tab", laid_math_bits_deBruijn32tab), ("math/bits.deBruijn64tab", laid_math_bits_deBruijn64tab)] }
def FnChainFailsSaid : Prop := fnChainFailsRow.holds Tryz.pinned (OpenSpec.ofChange fnChainFailsSpec)

/-- ITS FALSE NEIGHBOUR: 'it returns false'. Refute it at one input. -/
def fnChainFailsWrong : ChangeSpec := { name := "fnChainFails", fn := fun _ => fun
  | [d] => { results := [.lit (.bool false)], args := [d] }
  | _ => none }
def FnChainFailsWrongFalsely : Prop := fnChainFailsRow.holds Tryz.pinned (OpenSpec.ofChange fnChainFailsWrong)

/-- 'laws.FnCheckMinimal': WHATEVER THE INPUT: true; the input reads as it did. -/
def fnCheckMinimalSpec : ChangeSpec := { name := "fnCheckMinimal", fn := fun _ => fun
  | [d] => { results := [.lit (.bool true)], args := [d] }
  | _ => none }
def fnCheckMinimalRow : OpenClaim := { program := "ytckbjnndaaoddaagreatdoor", sum := "e45d3eba18b19253b4aa1bfa04a59541ff3db2778711944996c541ff224d1bc7", func := "loop.example/assumeguarantee/laws.FnCheckMinimal", spec := "fnCheckMinimal", unfollowed := true, recurses := true, named := ["math/bits.deBruijn32tab", "math/bits.deBruijn64tab", "internal/strconv.uint64pow10"], plainKeys := false, apart := false, laid := [("math/bits.deBruijn32tab", laid_math_bits_deBruijn32tab), ("math/bits.deBruijn64tab", laid_math_bits_deBruijn64tab), ("internal/strconv.uint64pow10", laid_internal_strconv_uint64pow10)] }
def FnCheckMinimalSaid : Prop := fnCheckMinimalRow.holds Tryz.pinned (OpenSpec.ofChange fnCheckMinimalSpec)

/-- ITS FALSE NEIGHBOUR: 'it returns false'. Refute it at one input. -/
def fnCheckMinimalWrong : ChangeSpec := { name := "fnCheckMinimal", fn := fun _ => fun
  | [d] => { results := [.lit (.bool false)], args := [d] }
  | _ => none }
def FnCheckMinimalWrongFalsely : Prop := fnCheckMinimalRow.holds Tryz.pinned (OpenSpec.ofChange fnCheckMinimalWrong)

/-- 'laws.FnFaultWeakest': WHATEVER THE INPUT: true; the input reads as it did. -/
def fnFaultWeakestSpec : ChangeSpec := { name := "fnFaultWeakest", fn := fun _ => fun
  | [d] => { results := [.lit (.bool true)], args := [d] }
  | _ => none }
def fnFaultWeakestRow : OpenClaim := { program := "ytckbjnndaaoddaagreatdoor", sum := "e45d3eba18b19253b4aa1bfa04a59541ff3db2778711944996c541ff224d1bc7", func := "loop.example/assumeguarantee/laws.FnFaultWeakest", spec := "fnFaultWeakest", unfollowed := true, recurses := true, named := ["math/bits.deBruijn32tab", "math/bits.deBruijn64tab", "internal/strconv.uint64pow10"], plainKeys := false, apart := false, laid := [("math/bits.deBruijn32tab", laid_math_bits_deBruijn32tab), ("math/bits.deBruijn64tab", laid_math_bits_deBruijn64tab), ("internal/strconv.uint64pow10", laid_internal_strconv_uint64pow10)] }
def FnFaultWeakestSaid : Prop := fnFaultWeakestRow.holds Tryz.pinned (OpenSpec.ofChange fnFaultWeakestSpec)

/-- ITS FALSE NEIGHBOUR: 'it returns false'. Refute it at one input. -/
def fnFaultWeakestWrong : ChangeSpec := { name := "fnFaultWeakest", fn := fun _ => fun
  | [d] => { results := [.lit (.bool false)], args := [d] }
  | _ => none }
def FnFaultWeakestWrongFalsely : Prop := fnFaultWeakestRow.holds Tryz.pinned (OpenSpec.ofChange fnFaultWeakestWrong)

/-- 'laws.FnVerifyTrim': WHATEVER THE INPUT: true; the input reads as it did. -/
def fnVerifyTrimSpec : ChangeSpec := { name := "fnVerifyTrim", fn := fun _ => fun
  | [d] => { results := [.lit (.bool true)], args := [d] }
  | _ => none }
def fnVerifyTrimRow : OpenClaim := { program := "ytckbjnndaaoddaagreatdoor", sum := "e45d3eba18b19253b4aa1bfa04a59541ff3db2778711944996c541ff224d1bc7", func := "loop.example/assumeguarantee/laws.FnVerifyTrim", spec := "fnVerifyTrim", unfollowed := true, recurses := true, named := ["math/bits.deBruijn32tab", "math/bits.deBruijn64tab", "internal/strconv.uint64pow10"], plainKeys := false, apart := false, laid := [("math/bits.deBruijn32tab", laid_math_bits_deBruijn32tab), ("math/bits.deBruijn64tab", laid_math_bits_deBruijn64tab), ("internal/strconv.uint64pow10", laid_internal_strconv_uint64pow10)] }
def FnVerifyTrimSaid : Prop := fnVerifyTrimRow.holds Tryz.pinned (OpenSpec.ofChange fnVerifyTrimSpec)

/-- ITS FALSE NEIGHBOUR: 'it returns false'. Refute it at one input. -/
def fnVerifyTrimWrong : ChangeSpec := { name := "fnVerifyTrim", fn := fun _ => fun
  | [d] => { results := [.lit (.bool false)], args := [d] }
  | _ => none }
def FnVerifyTrimWrongFalsely : Prop := fnVerifyTrimRow.holds Tryz.pinned (OpenSpec.ofChange fnVerifyTrimWrong)

/-- 'laws.FnCertifyComplete': WHATEVER THE INPUT: true; the input reads as it did. -/
def fnCertifyCompleteSpec : ChangeSpec := { name := "fnCertifyComplete", fn := fun _ => fun
  | [d] => { results := [.lit (.bool true)], args := [d] }
  | _ => none }
def fnCertifyCompleteRow : OpenClaim := { program := "ytckbjnndaaoddaagreatdoor", sum := "e45d3eba18b19253b4aa1bfa04a59541ff3db2778711944996c541ff224d1bc7", func := "loop.example/assumeguarantee/laws.FnCertifyComplete", spec := "fnCertifyComplete", unfollowed := true, recurses := true, named := ["math/bits.deBruijn32tab", "math/bits.deBruijn64tab", "internal/strconv.uint64pow10"], plainKeys := false, apart := false, laid := [("math/bits.deBruijn32tab", laid_math_bits_deBruijn32tab), ("math/bits.deBruijn64tab", laid_math_bits_deBruijn64tab), ("internal/strconv.uint64pow10", laid_internal_strconv_uint64pow10)] }
def FnCertifyCompleteSaid : Prop := fnCertifyCompleteRow.holds Tryz.pinned (OpenSpec.ofChange fnCertifyCompleteSpec)

/-- ITS FALSE NEIGHBOUR: 'it returns false'. Refute it at one input. -/
def fnCertifyCompleteWrong : ChangeSpec := { name := "fnCertifyComplete", fn := fun _ => fun
  | [d] => { results := [.lit (.bool false)], args := [d] }
  | _ => none }
def FnCertifyCompleteWrongFalsely : Prop := fnCertifyCompleteRow.holds Tryz.pinned (OpenSpec.ofChange fnCertifyCompleteWrong)

/-- 'laws.FnChainTrim': WHATEVER THE INPUT: true; the input reads as it did. -/
def fnChainTrimSpec : ChangeSpec := { name := "fnChainTrim", fn := fun _ => fun
  | [d] => { results := [.lit (.bool true)], args := [d] }
  | _ => none }
def fnChainTrimRow : OpenClaim := { program := "ytckbjnndaaoddaagreatdoor", sum := "e45d3eba18b19253b4aa1bfa04a59541ff3db2778711944996c541ff224d1bc7", func := "loop.example/assumeguarantee/laws.FnChainTrim", spec := "fnChainTrim", unfollowed := true, recurses := true, named := ["math/bits.deBruijn32tab", "math/bits.deBruijn64tab", "internal/strconv.uint64pow10"], plainKeys := false, apart := false, laid := [("math/bits.deBruijn32tab", laid_math_bits_deBruijn32tab), ("math/bits.deBruijn64tab", laid_math_bits_deBruijn64tab), ("internal/strconv.uint64pow10", laid_internal_strconv_uint64pow10)] }
def FnChainTrimSaid : Prop := fnChainTrimRow.holds Tryz.pinned (OpenSpec.ofChange fnChainTrimSpec)

/-- ITS FALSE NEIGHBOUR: 'it returns false'. Refute it at one input. -/
def fnChainTrimWrong : ChangeSpec := { name := "fnChainTrim", fn := fun _ => fun
  | [d] => { results := [.lit (.bool false)], args := [d] }
  | _ => none }
def FnChainTrimWrongFalsely : Prop := fnChainTrimRow.holds Tryz.pinned (OpenSpec.ofChange fnChainTrimWrong)

/- THE SECOND FORM. 'bulk': how many values and letters a reading holds, each counted each time it is reached (what is shared counts as often as it is met; a slice's spare places count too). A statement '..UptoSaid' is the law's where the arguments, and the package variables that the reading takes, are together of bulk at most 1048576: NARROWER than '..Said'. Prove '..Said' where nothing that the law and all that it calls make is longer than what came in: it says more and counts as full. Else prove '..UptoSaid'. A law counts once. -/
mutual
def uptoBulk {H : Type} : DataW H → Nat
  | .lit (.string bytes) => bytes.length + 1
  | .lit _ => 1
  | .nil => 1
  | .ptr d => uptoBulk d + 1
  | .slice elems spare => uptoBulkAll elems + uptoBulkAll spare + 1
  | .agg parts => uptoBulkAll parts + 1
  | .iface _ d => uptoBulk d + 1
  | .map entries => uptoBulkEntries entries + 1
  | .held _ => 1
def uptoBulkAll {H : Type} : List (DataW H) → Nat
  | [] => 0
  | d :: r => uptoBulk d + uptoBulkAll r
def uptoBulkEntries {H : Type} : List (Lit × DataW H) → Nat
  | [] => 0
  | x :: r => uptoBulkEntry x + uptoBulkEntries r
def uptoBulkEntry {H : Type} : Lit × DataW H → Nat
  | (.string bytes, d) => bytes.length + uptoBulk d + 1
  | (_, d) => uptoBulk d + 1
 end
def uptoSmall : (H : Type) → List (DataW H) → Bool := fun _ ds => decide (uptoBulkAll ds ≤ 1048576)
def OpenSpec.upto (s : _root_.Go.ChangeSpec) : _root_.Go.OpenSpec := { _root_.Go.OpenSpec.ofChange s with cond := some uptoSmall }

/-- 'laws.FnChainGroup', WHERE WHAT IT READS IS OF BULK AT MOST 1048576: true; the input reads as it did. -/
def fnChainGroupUptoRow : OpenClaim := { program := "ytckbjnndaaoddaagreatdoor", sum := "e45d3eba18b19253b4aa1bfa04a59541ff3db2778711944996c541ff224d1bc7", func := "loop.example/assumeguarantee/laws.FnChainGroup", spec := "fnChainGroup", unfollowed := true, recurses := true, named := ["math/bits.deBruijn32tab", "math/bits.deBruijn64tab"], plainKeys := false, apart := false, laid := [("math/bits.deBruijn32tab", laid_math_bits_deBruijn32tab), ("math/bits.deBruijn64tab", laid_math_bits_deBruijn64tab)], narrowed := true }
def FnChainGroupUptoSaid : Prop := fnChainGroupUptoRow.holds Tryz.pinned (OpenSpec.upto fnChainGroupSpec)

/-- 'laws.FnChainFault', WHERE WHAT IT READS IS OF BULK AT MOST 1048576: true; the input reads as it did. -/
def fnChainFaultUptoRow : OpenClaim := { program := "ytckbjnndaaoddaagreatdoor", sum := "e45d3eba18b19253b4aa1bfa04a59541ff3db2778711944996c541ff224d1bc7", func := "loop.example/assumeguarantee/laws.FnChainFault", spec := "fnChainFault", unfollowed := true, recurses := true, named := ["math/bits.deBruijn32tab", "math/bits.deBruijn64tab"], plainKeys := false, apart := false, laid := [("math/bits.deBruijn32tab", laid_math_bits_deBruijn32tab), ("math/bits.deBruijn64tab", laid_math_bits_deBruijn64tab)], narrowed := true }
def FnChainFaultUptoSaid : Prop := fnChainFaultUptoRow.holds Tryz.pinned (OpenSpec.upto fnChainFaultSpec)

/-- 'laws.FnChainFewer', WHERE WHAT IT READS IS OF BULK AT MOST 1048576: true; the input reads as it did. -/
def fnChainFewerUptoRow : OpenClaim := { program := "ytckbjnndaaoddaagreatdoor", sum := "e45d3eba18b19253b4aa1bfa04a59541ff3db2778711944996c541ff224d1bc7", func := "loop.example/assumeguarantee/laws.FnChainFewer", spec := "fnChainFewer", unfollowed := true, recurses := true, named := ["math/bits.deBruijn32tab", "math/bits.deBruijn64tab"], plainKeys := false, apart := false, laid := [("math/bits.deBruijn32tab", laid_math_bits_deBruijn32tab), ("math/bits.deBruijn64tab", laid_math_bits_deBruijn64tab)], narrowed := true }
def FnChainFewerUptoSaid : Prop := fnChainFewerUptoRow.holds Tryz.pinned (OpenSpec.upto fnChainFewerSpec)

/-- 'laws.FnChainSound', WHERE WHAT IT READS IS OF BULK AT MOST 1048576: true; the input reads as it did. -/
def fnChainSoundUptoRow : OpenClaim := { program := "ytckbjnndaaoddaagreatdoor", sum := "e45d3eba18b19253b4aa1bfa04a59541ff3db2778711944996c541ff224d1bc7", func := "loop.example/assumeguarantee/laws.FnChainSound", spec := "fnChainSound", unfollowed := true, recurses := true, named := ["math/bits.deBruijn32tab", "math/bits.deBruijn64tab"], plainKeys := false, apart := false, laid := [("math/bits.deBruijn32tab", laid_math_bits_deBruijn32tab), ("math/bits.deBruijn64tab", laid_math_bits_deBruijn64tab)], narrowed := true }
def FnChainSoundUptoSaid : Prop := fnChainSoundUptoRow.holds Tryz.pinned (OpenSpec.upto fnChainSoundSpec)

/-- 'laws.FnChainLinks', WHERE WHAT IT READS IS OF BULK AT MOST 1048576: true; the input reads as it did. -/
def fnChainLinksUptoRow : OpenClaim := { program := "ytckbjnndaaoddaagreatdoor", sum := "e45d3eba18b19253b4aa1bfa04a59541ff3db2778711944996c541ff224d1bc7", func := "loop.example/assumeguarantee/laws.FnChainLinks", spec := "fnChainLinks", unfollowed := true, recurses := true, named := ["math/bits.deBruijn32tab", "math/bits.deBruijn64tab"], plainKeys := false, apart := false, laid := [("math/bits.deBruijn32tab", laid_math_bits_deBruijn32tab), ("math/bits.deBruijn64tab", laid_math_bits_deBruijn64tab)], narrowed := true }
def FnChainLinksUptoSaid : Prop := fnChainLinksUptoRow.holds Tryz.pinned (OpenSpec.upto fnChainLinksSpec)

/-- 'laws.FnChainHolds', WHERE WHAT IT READS IS OF BULK AT MOST 1048576: true; the input reads as it did. -/
def fnChainHoldsUptoRow : OpenClaim := { program := "ytckbjnndaaoddaagreatdoor", sum := "e45d3eba18b19253b4aa1bfa04a59541ff3db2778711944996c541ff224d1bc7", func := "loop.example/assumeguarantee/laws.FnChainHolds", spec := "fnChainHolds", unfollowed := true, recurses := true, named := ["math/bits.deBruijn32tab", "math/bits.deBruijn64tab"], plainKeys := false, apart := false, laid := [("math/bits.deBruijn32tab", laid_math_bits_deBruijn32tab), ("math/bits.deBruijn64tab", laid_math_bits_deBruijn64tab)], narrowed := true }
def FnChainHoldsUptoSaid : Prop := fnChainHoldsUptoRow.holds Tryz.pinned (OpenSpec.upto fnChainHoldsSpec)

/-- 'laws.FnChainFails', WHERE WHAT IT READS IS OF BULK AT MOST 1048576: true; the input reads as it did. -/
def fnChainFailsUptoRow : OpenClaim := { program := "ytckbjnndaaoddaagreatdoor", sum := "e45d3eba18b19253b4aa1bfa04a59541ff3db2778711944996c541ff224d1bc7", func := "loop.example/assumeguarantee/laws.FnChainFails", spec := "fnChainFails", unfollowed := true, recurses := true, named := ["math/bits.deBruijn32tab", "math/bits.deBruijn64tab"], plainKeys := false, apart := false, laid := [("math/bits.deBruijn32tab", laid_math_bits_deBruijn32tab), ("math/bits.deBruijn64tab", laid_math_bits_deBruijn64tab)], narrowed := true }
def FnChainFailsUptoSaid : Prop := fnChainFailsUptoRow.holds Tryz.pinned (OpenSpec.upto fnChainFailsSpec)

/-- 'laws.FnCheckMinimal', WHERE WHAT IT READS IS OF BULK AT MOST 1048576: true; the input reads as it did. -/
def fnCheckMinimalUptoRow : OpenClaim := { program := "ytckbjnndaaoddaagreatdoor", sum := "e45d3eba18b19253b4aa1bfa04a59541ff3db2778711944996c541ff224d1bc7", func := "loop.example/assumeguarantee/laws.FnCheckMinimal", spec := "fnCheckMinimal", unfollowed := true, recurses := true, named := ["math/bits.deBruijn32tab", "math/bits.deBruijn64tab", "internal/strconv.uint64pow10"], plainKeys := false, apart := false, laid := [("math/bits.deBruijn32tab", laid_math_bits_deBruijn32tab), ("math/bits.deBruijn64tab", laid_math_bits_deBruijn64tab), ("internal/strconv.uint64pow10", laid_internal_strconv_uint64pow10)], narrowed := true }
def FnCheckMinimalUptoSaid : Prop := fnCheckMinimalUptoRow.holds Tryz.pinned (OpenSpec.upto fnCheckMinimalSpec)

/-- 'laws.FnFaultWeakest', WHERE WHAT IT READS IS OF BULK AT MOST 1048576: true; the input reads as it did. -/
def fnFaultWeakestUptoRow : OpenClaim := { program := "ytckbjnndaaoddaagreatdoor", sum := "e45d3eba18b19253b4aa1bfa04a59541ff3db2778711944996c541ff224d1bc7", func := "loop.example/assumeguarantee/laws.FnFaultWeakest", spec := "fnFaultWeakest", unfollowed := true, recurses := true, named := ["math/bits.deBruijn32tab", "math/bits.deBruijn64tab", "internal/strconv.uint64pow10"], plainKeys := false, apart := false, laid := [("math/bits.deBruijn32tab", laid_math_bits_deBruijn32tab), ("math/bits.deBruijn64tab", laid_math_bits_deBruijn64tab), ("internal/strconv.uint64pow10", laid_internal_strconv_uint64pow10)], narrowed := true }
def FnFaultWeakestUptoSaid : Prop := fnFaultWeakestUptoRow.holds Tryz.pinned (OpenSpec.upto fnFaultWeakestSpec)

/-- 'laws.FnVerifyTrim', WHERE WHAT IT READS IS OF BULK AT MOST 1048576: true; the input reads as it did. -/
def fnVerifyTrimUptoRow : OpenClaim := { program := "ytckbjnndaaoddaagreatdoor", sum := "e45d3eba18b19253b4aa1bfa04a59541ff3db2778711944996c541ff224d1bc7", func := "loop.example/assumeguarantee/laws.FnVerifyTrim", spec := "fnVerifyTrim", unfollowed := true, recurses := true, named := ["math/bits.deBruijn32tab", "math/bits.deBruijn64tab", "internal/strconv.uint64pow10"], plainKeys := false, apart := false, laid := [("math/bits.deBruijn32tab", laid_math_bits_deBruijn32tab), ("math/bits.deBruijn64tab", laid_math_bits_deBruijn64tab), ("internal/strconv.uint64pow10", laid_internal_strconv_uint64pow10)], narrowed := true }
def FnVerifyTrimUptoSaid : Prop := fnVerifyTrimUptoRow.holds Tryz.pinned (OpenSpec.upto fnVerifyTrimSpec)

/-- 'laws.FnCertifyComplete', WHERE WHAT IT READS IS OF BULK AT MOST 1048576: true; the input reads as it did. -/
def fnCertifyCompleteUptoRow : OpenClaim := { program := "ytckbjnndaaoddaagreatdoor", sum := "e45d3eba18b19253b4aa1bfa04a59541ff3db2778711944996c541ff224d1bc7", func := "loop.example/assumeguarantee/laws.FnCertifyComplete", spec := "fnCertifyComplete", unfollowed := true, recurses := true, named := ["math/bits.deBruijn32tab", "math/bits.deBruijn64tab", "internal/strconv.uint64pow10"], plainKeys := false, apart := false, laid := [("math/bits.deBruijn32tab", laid_math_bits_deBruijn32tab), ("math/bits.deBruijn64tab", laid_math_bits_deBruijn64tab), ("internal/strconv.uint64pow10", laid_internal_strconv_uint64pow10)], narrowed := true }
def FnCertifyCompleteUptoSaid : Prop := fnCertifyCompleteUptoRow.holds Tryz.pinned (OpenSpec.upto fnCertifyCompleteSpec)

/-- 'laws.FnChainTrim', WHERE WHAT IT READS IS OF BULK AT MOST 1048576: true; the input reads as it did. -/
def fnChainTrimUptoRow : OpenClaim := { program := "ytckbjnndaaoddaagreatdoor", sum := "e45d3eba18b19253b4aa1bfa04a59541ff3db2778711944996c541ff224d1bc7", func := "loop.example/assumeguarantee/laws.FnChainTrim", spec := "fnChainTrim", unfollowed := true, recurses := true, named := ["math/bits.deBruijn32tab", "math/bits.deBruijn64tab", "internal/strconv.uint64pow10"], plainKeys := false, apart := false, laid := [("math/bits.deBruijn32tab", laid_math_bits_deBruijn32tab), ("math/bits.deBruijn64tab", laid_math_bits_deBruijn64tab), ("internal/strconv.uint64pow10", laid_internal_strconv_uint64pow10)], narrowed := true }
def FnChainTrimUptoSaid : Prop := fnChainTrimUptoRow.holds Tryz.pinned (OpenSpec.upto fnChainTrimSpec)

end Rows
end Go.Proofs.YtckbjnndaaoddaaGreatDoor
