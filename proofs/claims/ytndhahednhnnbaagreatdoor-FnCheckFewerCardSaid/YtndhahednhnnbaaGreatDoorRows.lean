/-
  NARROWER THAN 'FOR EVERY INPUT', by the rows' own cells (each row's printed sentence says how): FnChainFault: laid · FnChainFewer: laid · FnChainSound: laid · FnChainLinks: laid · FnCheckFails: laid · FnCheckFewer: laid · FnCheckHolds: laid · FnCheckOrder: laid · FnCheckSound: laid · FnCheckTurned: laid · FnCheckMore: laid · FnCheckLonger: laid.
  DERIVED. THE GIVEN ROWS OF THIS SEAT. 12 by the template 'for every input the law returns true; each argument reads behind the call as it read before'; 0 by the template 'total and deterministic' (their statements: YtndhahednhnnbaaGreatDoorTotals.lean).
  GIVEN WITH THE SEED: the statements are not yours to turn. If you find one false, say at which input.
  Laid BY PROGRAM, IN A SANDBOX (cutbox-rows.mjs): the forced cells as the released guide's own fill.sh prints them over the translation 9bf9471b8af530bb… (all of the seat's roots in one cut). By AI agents, Wed Nov 11 2026. No macro, syntax, notation, axiom, sorry.
-/
import Derived.Test.YtndhahednhnnbaaGreatDoorChecked
import GoSem.Claim
import GoSem.ClaimJoined
import GoSem.ClaimMapViews
import Derived.JoinedTies
import Derived.KernelRfl
namespace Go.Proofs.YtndhahednhnnbaaGreatDoor
/- THE CELL 'sum', in the pinned program and in every row, IS THE sha256 OF THE DUMP (.gsa) THAT YtndhahednhnnbaaGreatDoorProg.lean LOADS. Nothing in Lean hashes anything: it is a label: what it is worth is what the hold of that sum in a sandbox is worth. -/
noncomputable def Tryz.pinned : Pinned := { name := "ytndhahednhnnbaagreatdoor", sum := "9bf9471b8af530bb79b00965dc5d5132b90664299c8ddf7ca679f64d2327b551", checked := Tryz.checked }
namespace Rows
def none {H : Type} : Left H := { results := [], args := [] }

/- WHAT THE LISTED PACKAGE-LEVEL VARIABLES READ AS WHEN THE CALL BEGINS. Each datum BY PROGRAM (the guide's laid-datum.mjs) off the statement by which the dump's own 'gosem.cut.vars' lays the variable. In a bare row this is a premise. The card (YtndhahednhnnbaaGreatDoorCards.lean) ties it to the program's text. -/
def laid_math_bits_deBruijn32tab {H : Type} : DataW H := .agg [.lit (.int .u8 0), .lit (.int .u8 1), .lit (.int .u8 28), .lit (.int .u8 2), .lit (.int .u8 29), .lit (.int .u8 14), .lit (.int .u8 24), .lit (.int .u8 3), .lit (.int .u8 30), .lit (.int .u8 22), .lit (.int .u8 20), .lit (.int .u8 15), .lit (.int .u8 25), .lit (.int .u8 17), .lit (.int .u8 4), .lit (.int .u8 8), .lit (.int .u8 31), .lit (.int .u8 27), .lit (.int .u8 13), .lit (.int .u8 23), .lit (.int .u8 21), .lit (.int .u8 19), .lit (.int .u8 16), .lit (.int .u8 7), .lit (.int .u8 26), .lit (.int .u8 12), .lit (.int .u8 18), .lit (.int .u8 6), .lit (.int .u8 11), .lit (.int .u8 5), .lit (.int .u8 10), .lit (.int .u8 9)]
def laid_math_bits_deBruijn64tab {H : Type} : DataW H := .agg [.lit (.int .u8 0), .lit (.int .u8 1), .lit (.int .u8 56), .lit (.int .u8 2), .lit (.int .u8 57), .lit (.int .u8 49), .lit (.int .u8 28), .lit (.int .u8 3), .lit (.int .u8 61), .lit (.int .u8 58), .lit (.int .u8 42), .lit (.int .u8 50), .lit (.int .u8 38), .lit (.int .u8 29), .lit (.int .u8 17), .lit (.int .u8 4), .lit (.int .u8 62), .lit (.int .u8 47), .lit (.int .u8 59), .lit (.int .u8 36), .lit (.int .u8 45), .lit (.int .u8 43), .lit (.int .u8 51), .lit (.int .u8 22), .lit (.int .u8 53), .lit (.int .u8 39), .lit (.int .u8 33), .lit (.int .u8 30), .lit (.int .u8 24), .lit (.int .u8 18), .lit (.int .u8 12), .lit (.int .u8 5), .lit (.int .u8 63), .lit (.int .u8 55), .lit (.int .u8 48), .lit (.int .u8 27), .lit (.int .u8 60), .lit (.int .u8 41), .lit (.int .u8 37), .lit (.int .u8 16), .lit (.int .u8 46), .lit (.int .u8 35), .lit (.int .u8 44), .lit (.int .u8 21), .lit (.int .u8 52), .lit (.int .u8 32), .lit (.int .u8 23), .lit (.int .u8 11), .lit (.int .u8 54), .lit (.int .u8 26), .lit (.int .u8 40), .lit (.int .u8 15), .lit (.int .u8 34), .lit (.int .u8 20), .lit (.int .u8 31), .lit (.int .u8 10), .lit (.int .u8 25), .lit (.int .u8 14), .lit (.int .u8 19), .lit (.int .u8 9), .lit (.int .u8 13), .lit (.int .u8 8), .lit (.int .u8 7), .lit (.int .u8 6)]

/-- 'laws.FnChainFault': WHATEVER THE INPUT: true; the input reads as it did. -/
def fnChainFaultSpec : ChangeSpec := { name := "fnChainFault", fn := fun _ => fun
  | [d] => { results := [.lit (.bool true)], args := [d] }
  | _ => none }
def fnChainFaultRow : OpenClaim := { program := "ytndhahednhnnbaagreatdoor", sum := "9bf9471b8af530bb79b00965dc5d5132b90664299c8ddf7ca679f64d2327b551", func := "loop.example/assumeguarantee/laws.FnChainFault", spec := "fnChainFault", unfollowed := true, recurses := true, named := ["math/bits.deBruijn32tab", "math/bits.deBruijn64tab"], apart := false, laid := [("math/bits.deBruijn32tab", laid_math_bits_deBruijn32tab), ("math/bits.deBruijn64tab", laid_math_bits_deBruijn64tab)] }
def FnChainFaultSaid : Prop := fnChainFaultRow.holds Tryz.pinned (OpenSpec.ofChange fnChainFaultSpec)

/-- ITS FALSE NEIGHBOUR: 'it returns false'. Refute it at one input. -/
def fnChainFaultWrong : ChangeSpec := { name := "fnChainFault", fn := fun _ => fun
  | [d] => { results := [.lit (.bool false)], args := [d] }
  | _ => none }
def FnChainFaultWrongFalsely : Prop := fnChainFaultRow.holds Tryz.pinned (OpenSpec.ofChange fnChainFaultWrong)

/-- 'laws.FnChainFewer': WHATEVER THE INPUT: true; the input reads as it did. -/
def fnChainFewerSpec : ChangeSpec := { name := "fnChainFewer", fn := fun _ => fun
  | [d] => { results := [.lit (.bool true)], args := [d] }
  | _ => none }
def fnChainFewerRow : OpenClaim := { program := "ytndhahednhnnbaagreatdoor", sum := "9bf9471b8af530bb79b00965dc5d5132b90664299c8ddf7ca679f64d2327b551", func := "loop.example/assumeguarantee/laws.FnChainFewer", spec := "fnChainFewer", unfollowed := true, recurses := true, named := ["math/bits.deBruijn32tab", "math/bits.deBruijn64tab"], apart := false, laid := [("math/bits.deBruijn32tab", laid_math_bits_deBruijn32tab), ("math/bits.deBruijn64tab", laid_math_bits_deBruijn64tab)] }
def FnChainFewerSaid : Prop := fnChainFewerRow.holds Tryz.pinned (OpenSpec.ofChange fnChainFewerSpec)

/-- ITS FALSE NEIGHBOUR: 'it returns false'. Refute it at one input. -/
def fnChainFewerWrong : ChangeSpec := { name := "fnChainFewer", fn := fun _ => fun
  | [d] => { results := [.lit (.bool false)], args := [d] }
  | _ => none }
def FnChainFewerWrongFalsely : Prop := fnChainFewerRow.holds Tryz.pinned (OpenSpec.ofChange fnChainFewerWrong)

/-- 'laws.FnChainSound': WHATEVER THE INPUT: true; the input reads as it did. -/
def fnChainSoundSpec : ChangeSpec := { name := "fnChainSound", fn := fun _ => fun
  | [d] => { results := [.lit (.bool true)], args := [d] }
  | _ => none }
def fnChainSoundRow : OpenClaim := { program := "ytndhahednhnnbaagreatdoor", sum := "9bf9471b8af530bb79b00965dc5d5132b90664299c8ddf7ca679f64d2327b551", func := "loop.example/assumeguarantee/laws.FnChainSound", spec := "fnChainSound", unfollowed := true, recurses := true, named := ["math/bits.deBruijn32tab", "math/bits.deBruijn64tab"], apart := false, laid := [("math/bits.deBruijn32tab", laid_math_bits_deBruijn32tab), ("math/bits.deBruijn64tab", laid_math_bits_deBruijn64tab)] }
def FnChainSoundSaid : Prop := fnChainSoundRow.holds Tryz.pinned (OpenSpec.ofChange fnChainSoundSpec)

/-- ITS FALSE NEIGHBOUR: 'it returns false'. Refute it at one input. -/
def fnChainSoundWrong : ChangeSpec := { name := "fnChainSound", fn := fun _ => fun
  | [d] => { results := [.lit (.bool false)], args := [d] }
  | _ => none }
def FnChainSoundWrongFalsely : Prop := fnChainSoundRow.holds Tryz.pinned (OpenSpec.ofChange fnChainSoundWrong)

/-- 'laws.FnChainLinks': WHATEVER THE INPUT: true; the input reads as it did. -/
def fnChainLinksSpec : ChangeSpec := { name := "fnChainLinks", fn := fun _ => fun
  | [d] => { results := [.lit (.bool true)], args := [d] }
  | _ => none }
def fnChainLinksRow : OpenClaim := { program := "ytndhahednhnnbaagreatdoor", sum := "9bf9471b8af530bb79b00965dc5d5132b90664299c8ddf7ca679f64d2327b551", func := "loop.example/assumeguarantee/laws.FnChainLinks", spec := "fnChainLinks", unfollowed := true, recurses := true, named := ["math/bits.deBruijn32tab", "math/bits.deBruijn64tab"], apart := false, laid := [("math/bits.deBruijn32tab", laid_math_bits_deBruijn32tab), ("math/bits.deBruijn64tab", laid_math_bits_deBruijn64tab)] }
def FnChainLinksSaid : Prop := fnChainLinksRow.holds Tryz.pinned (OpenSpec.ofChange fnChainLinksSpec)

/-- ITS FALSE NEIGHBOUR: 'it returns false'. Refute it at one input. -/
def fnChainLinksWrong : ChangeSpec := { name := "fnChainLinks", fn := fun _ => fun
  | [d] => { results := [.lit (.bool false)], args := [d] }
  | _ => none }
def FnChainLinksWrongFalsely : Prop := fnChainLinksRow.holds Tryz.pinned (OpenSpec.ofChange fnChainLinksWrong)

/-- 'laws.FnCheckFails': WHATEVER THE INPUT: true; the input reads as it did. -/
def fnCheckFailsSpec : ChangeSpec := { name := "fnCheckFails", fn := fun _ => fun
  | [d] => { results := [.lit (.bool true)], args := [d] }
  | _ => none }
def fnCheckFailsRow : OpenClaim := { program := "ytndhahednhnnbaagreatdoor", sum := "9bf9471b8af530bb79b00965dc5d5132b90664299c8ddf7ca679f64d2327b551", func := "loop.example/assumeguarantee/laws.FnCheckFails", spec := "fnCheckFails", unfollowed := true, recurses := true, named := ["math/bits.deBruijn32tab", "math/bits.deBruijn64tab"], apart := false, laid := [("math/bits.deBruijn32tab", laid_math_bits_deBruijn32tab), ("math/bits.deBruijn64tab", laid_math_bits_deBruijn64tab)] }
def FnCheckFailsSaid : Prop := fnCheckFailsRow.holds Tryz.pinned (OpenSpec.ofChange fnCheckFailsSpec)

/-- ITS FALSE NEIGHBOUR: 'it returns false'. Refute it at one input. -/
def fnCheckFailsWrong : ChangeSpec := { name := "fnCheckFails", fn := fun _ => fun
  | [d] => { results := [.lit (.bool false)], args := [d] }
  | _ => none }
def FnCheckFailsWrongFalsely : Prop := fnCheckFailsRow.holds Tryz.pinned (OpenSpec.ofChange fnCheckFailsWrong)

/-- 'laws.FnCheckFewer': WHATEVER THE INPUT: true; the input reads as it did. -/
def fnCheckFewerSpec : ChangeSpec := { name := "fnCheckFewer", fn := fun _ => fun
  | [d] => { results := [.lit (.bool true)], args := [d] }
  | _ => none }
def fnCheckFewerRow : OpenClaim := { program := "ytndhahednhnnbaagreatdoor", sum := "9bf9471b8af530bb79b00965dc5d5132b90664299c8ddf7ca679f64d2327b551", func := "loop.example/assumeguarantee/laws.FnCheckFewer", spec := "fnCheckFewer", unfollowed := true, recurses := true, named := ["math/bits.deBruijn32tab", "math/bits.deBruijn64tab"], apart := false, laid := [("math/bits.deBruijn32tab", laid_math_bits_deBruijn32tab), ("math/bits.deBruijn64tab", laid_math_bits_deBruijn64tab)] }
def FnCheckFewerSaid : Prop := fnCheckFewerRow.holds Tryz.pinned (OpenSpec.ofChange fnCheckFewerSpec)

/-- ITS FALSE NEIGHBOUR: 'it returns false'. Refute it at one input. -/
def fnCheckFewerWrong : ChangeSpec := { name := "fnCheckFewer", fn := fun _ => fun
  | [d] => { results := [.lit (.bool false)], args := [d] }
  | _ => none }
def FnCheckFewerWrongFalsely : Prop := fnCheckFewerRow.holds Tryz.pinned (OpenSpec.ofChange fnCheckFewerWrong)

/-- 'laws.FnCheckHolds': WHATEVER THE INPUT: true; the input reads as it did. -/
def fnCheckHoldsSpec : ChangeSpec := { name := "fnCheckHolds", fn := fun _ => fun
  | [d] => { results := [.lit (.bool true)], args := [d] }
  | _ => none }
def fnCheckHoldsRow : OpenClaim := { program := "ytndhahednhnnbaagreatdoor", sum := "9bf9471b8af530bb79b00965dc5d5132b90664299c8ddf7ca679f64d2327b551", func := "loop.example/assumeguarantee/laws.FnCheckHolds", spec := "fnCheckHolds", unfollowed := true, recurses := true, named := ["math/bits.deBruijn32tab", "math/bits.deBruijn64tab"], apart := false, laid := [("math/bits.deBruijn32tab", laid_math_bits_deBruijn32tab), ("math/bits.deBruijn64tab", laid_math_bits_deBruijn64tab)] }
def FnCheckHoldsSaid : Prop := fnCheckHoldsRow.holds Tryz.pinned (OpenSpec.ofChange fnCheckHoldsSpec)

/-- ITS FALSE NEIGHBOUR: 'it returns false'. Refute it at one input. -/
def fnCheckHoldsWrong : ChangeSpec := { name := "fnCheckHolds", fn := fun _ => fun
  | [d] => { results := [.lit (.bool false)], args := [d] }
  | _ => none }
def FnCheckHoldsWrongFalsely : Prop := fnCheckHoldsRow.holds Tryz.pinned (OpenSpec.ofChange fnCheckHoldsWrong)

/-- 'laws.FnCheckOrder': WHATEVER THE INPUT: true; the input reads as it did. -/
def fnCheckOrderSpec : ChangeSpec := { name := "fnCheckOrder", fn := fun _ => fun
  | [d] => { results := [.lit (.bool true)], args := [d] }
  | _ => none }
def fnCheckOrderRow : OpenClaim := { program := "ytndhahednhnnbaagreatdoor", sum := "9bf9471b8af530bb79b00965dc5d5132b90664299c8ddf7ca679f64d2327b551", func := "loop.example/assumeguarantee/laws.FnCheckOrder", spec := "fnCheckOrder", unfollowed := true, recurses := true, named := ["math/bits.deBruijn32tab", "math/bits.deBruijn64tab"], apart := false, laid := [("math/bits.deBruijn32tab", laid_math_bits_deBruijn32tab), ("math/bits.deBruijn64tab", laid_math_bits_deBruijn64tab)] }
def FnCheckOrderSaid : Prop := fnCheckOrderRow.holds Tryz.pinned (OpenSpec.ofChange fnCheckOrderSpec)

/-- ITS FALSE NEIGHBOUR: 'it returns false'. Refute it at one input. -/
def fnCheckOrderWrong : ChangeSpec := { name := "fnCheckOrder", fn := fun _ => fun
  | [d] => { results := [.lit (.bool false)], args := [d] }
  | _ => none }
def FnCheckOrderWrongFalsely : Prop := fnCheckOrderRow.holds Tryz.pinned (OpenSpec.ofChange fnCheckOrderWrong)

/-- 'laws.FnCheckSound': WHATEVER THE INPUT: true; the input reads as it did. -/
def fnCheckSoundSpec : ChangeSpec := { name := "fnCheckSound", fn := fun _ => fun
  | [d] => { results := [.lit (.bool true)], args := [d] }
  | _ => none }
def fnCheckSoundRow : OpenClaim := { program := "ytndhahednhnnbaagreatdoor", sum := "9bf9471b8af530bb79b00965dc5d5132b90664299c8ddf7ca679f64d2327b551", func := "loop.example/assumeguarantee/laws.FnCheckSound", spec := "fnCheckSound", unfollowed := true, recurses := true, named := ["math/bits.deBruijn32tab", "math/bits.deBruijn64tab"], apart := false, laid := [("math/bits.deBruijn32tab", laid_math_bits_deBruijn32tab), ("math/bits.deBruijn64tab", laid_math_bits_deBruijn64tab)] }
def FnCheckSoundSaid : Prop := fnCheckSoundRow.holds Tryz.pinned (OpenSpec.ofChange fnCheckSoundSpec)

/-- ITS FALSE NEIGHBOUR: 'it returns false'. Refute it at one input. -/
def fnCheckSoundWrong : ChangeSpec := { name := "fnCheckSound", fn := fun _ => fun
  | [d] => { results := [.lit (.bool false)], args := [d] }
  | _ => none }
def FnCheckSoundWrongFalsely : Prop := fnCheckSoundRow.holds Tryz.pinned (OpenSpec.ofChange fnCheckSoundWrong)

/-- 'laws.FnCheckTurned': WHATEVER THE INPUT: true; the input reads as it did. -/
def fnCheckTurnedSpec : ChangeSpec := { name := "fnCheckTurned", fn := fun _ => fun
  | [d] => { results := [.lit (.bool true)], args := [d] }
  | _ => none }
def fnCheckTurnedRow : OpenClaim := { program := "ytndhahednhnnbaagreatdoor", sum := "9bf9471b8af530bb79b00965dc5d5132b90664299c8ddf7ca679f64d2327b551", func := "loop.example/assumeguarantee/laws.FnCheckTurned", spec := "fnCheckTurned", unfollowed := true, recurses := true, named := ["math/bits.deBruijn32tab", "math/bits.deBruijn64tab"], apart := false, laid := [("math/bits.deBruijn32tab", laid_math_bits_deBruijn32tab), ("math/bits.deBruijn64tab", laid_math_bits_deBruijn64tab)] }
def FnCheckTurnedSaid : Prop := fnCheckTurnedRow.holds Tryz.pinned (OpenSpec.ofChange fnCheckTurnedSpec)

/-- ITS FALSE NEIGHBOUR: 'it returns false'. Refute it at one input. -/
def fnCheckTurnedWrong : ChangeSpec := { name := "fnCheckTurned", fn := fun _ => fun
  | [d] => { results := [.lit (.bool false)], args := [d] }
  | _ => none }
def FnCheckTurnedWrongFalsely : Prop := fnCheckTurnedRow.holds Tryz.pinned (OpenSpec.ofChange fnCheckTurnedWrong)

/-- 'laws.FnCheckMore': WHATEVER THE INPUT: true; the input reads as it did. -/
def fnCheckMoreSpec : ChangeSpec := { name := "fnCheckMore", fn := fun _ => fun
  | [d1, d2] => { results := [.lit (.bool true)], args := [d1, d2] }
  | _ => none }
def fnCheckMoreRow : OpenClaim := { program := "ytndhahednhnnbaagreatdoor", sum := "9bf9471b8af530bb79b00965dc5d5132b90664299c8ddf7ca679f64d2327b551", func := "loop.example/assumeguarantee/laws.FnCheckMore", spec := "fnCheckMore", unfollowed := true, recurses := true, named := ["math/bits.deBruijn32tab", "math/bits.deBruijn64tab"], apart := false, laid := [("math/bits.deBruijn32tab", laid_math_bits_deBruijn32tab), ("math/bits.deBruijn64tab", laid_math_bits_deBruijn64tab)] }
def FnCheckMoreSaid : Prop := fnCheckMoreRow.holds Tryz.pinned (OpenSpec.ofChange fnCheckMoreSpec)

/-- ITS FALSE NEIGHBOUR: 'it returns false'. Refute it at one input. -/
def fnCheckMoreWrong : ChangeSpec := { name := "fnCheckMore", fn := fun _ => fun
  | [d1, d2] => { results := [.lit (.bool false)], args := [d1, d2] }
  | _ => none }
def FnCheckMoreWrongFalsely : Prop := fnCheckMoreRow.holds Tryz.pinned (OpenSpec.ofChange fnCheckMoreWrong)

/-- 'laws.FnCheckLonger': WHATEVER THE INPUT: true; the input reads as it did. -/
def fnCheckLongerSpec : ChangeSpec := { name := "fnCheckLonger", fn := fun _ => fun
  | [d] => { results := [.lit (.bool true)], args := [d] }
  | _ => none }
def fnCheckLongerRow : OpenClaim := { program := "ytndhahednhnnbaagreatdoor", sum := "9bf9471b8af530bb79b00965dc5d5132b90664299c8ddf7ca679f64d2327b551", func := "loop.example/assumeguarantee/laws.FnCheckLonger", spec := "fnCheckLonger", unfollowed := true, recurses := true, named := ["math/bits.deBruijn32tab", "math/bits.deBruijn64tab"], apart := false, laid := [("math/bits.deBruijn32tab", laid_math_bits_deBruijn32tab), ("math/bits.deBruijn64tab", laid_math_bits_deBruijn64tab)] }
def FnCheckLongerSaid : Prop := fnCheckLongerRow.holds Tryz.pinned (OpenSpec.ofChange fnCheckLongerSpec)

/-- ITS FALSE NEIGHBOUR: 'it returns false'. Refute it at one input. -/
def fnCheckLongerWrong : ChangeSpec := { name := "fnCheckLonger", fn := fun _ => fun
  | [d] => { results := [.lit (.bool false)], args := [d] }
  | _ => none }
def FnCheckLongerWrongFalsely : Prop := fnCheckLongerRow.holds Tryz.pinned (OpenSpec.ofChange fnCheckLongerWrong)

/- THE SECOND FORM. 'bulk': how many values and letters a reading holds, each counted each time it is reached (what is shared counts as often as it is met; a slice's spare places count too). A statement '..UptoSaid' is the law's where the arguments, and the package variables that the reading takes, are together of bulk at most 1048576: NARROWER than '..Said'. Prove '..Said' where nothing that the law and all that it calls make is longer than what came in: it says more and counts as full. Else prove '..UptoSaid'. A law counts once. -/
mutual
def uptoBulk {H : Type} : DataW H → Nat
  | .lit (.string bytes) => bytes.length + 1
  | .lit _ => 1
  | .nil => 1
  | .ptr d => uptoBulk d + 1
  | .slice elems spare => uptoBulkAll elems + uptoBulkAll spare + 1
  | .agg parts => uptoBulkAll parts + 1
  | .iface _ d => uptoBulk d + 1
  | .map entries => uptoBulkEntries entries + 1
  | .held _ => 1
def uptoBulkAll {H : Type} : List (DataW H) → Nat
  | [] => 0
  | d :: r => uptoBulk d + uptoBulkAll r
def uptoBulkEntries {H : Type} : List (Lit × DataW H) → Nat
  | [] => 0
  | x :: r => uptoBulkEntry x + uptoBulkEntries r
def uptoBulkEntry {H : Type} : Lit × DataW H → Nat
  | (.string bytes, d) => bytes.length + uptoBulk d + 1
  | (_, d) => uptoBulk d + 1
 end
def uptoSmall : (H : Type) → List (DataW H) → Bool := fun _ ds => decide (uptoBulkAll ds ≤ 1048576)
def OpenSpec.upto (s : _root_.Go.ChangeSpec) : _root_.Go.OpenSpec := { _root_.Go.OpenSpec.ofChange s with cond := some uptoSmall }

/-- 'laws.FnChainFault', WHERE WHAT IT READS IS OF BULK AT MOST 1048576: true; the input reads as it did. -/
def fnChainFaultUptoRow : OpenClaim := { program := "ytndhahednhnnbaagreatdoor", sum := "9bf9471b8af530bb79b00965dc5d5132b90664299c8ddf7ca679f64d2327b551", func := "loop.example/assumeguarantee/laws.FnChainFault", spec := "fnChainFault", unfollowed := true, recurses := true, named := ["math/bits.deBruijn32tab", "math/bits.deBruijn64tab"], apart := false, laid := [("math/bits.deBruijn32tab", laid_math_bits_deBruijn32tab), ("math/bits.deBruijn64tab", laid_math_bits_deBruijn64tab)], narrowed := true }
def FnChainFaultUptoSaid : Prop := fnChainFaultUptoRow.holds Tryz.pinned (OpenSpec.upto fnChainFaultSpec)

/-- 'laws.FnChainFewer', WHERE WHAT IT READS IS OF BULK AT MOST 1048576: true; the input reads as it did. -/
def fnChainFewerUptoRow : OpenClaim := { program := "ytndhahednhnnbaagreatdoor", sum := "9bf9471b8af530bb79b00965dc5d5132b90664299c8ddf7ca679f64d2327b551", func := "loop.example/assumeguarantee/laws.FnChainFewer", spec := "fnChainFewer", unfollowed := true, recurses := true, named := ["math/bits.deBruijn32tab", "math/bits.deBruijn64tab"], apart := false, laid := [("math/bits.deBruijn32tab", laid_math_bits_deBruijn32tab), ("math/bits.deBruijn64tab", laid_math_bits_deBruijn64tab)], narrowed := true }
def FnChainFewerUptoSaid : Prop := fnChainFewerUptoRow.holds Tryz.pinned (OpenSpec.upto fnChainFewerSpec)

/-- 'laws.FnChainSound', WHERE WHAT IT READS IS OF BULK AT MOST 1048576: true; the input reads as it did. -/
def fnChainSoundUptoRow : OpenClaim := { program := "ytndhahednhnnbaagreatdoor", sum := "9bf9471b8af530bb79b00965dc5d5132b90664299c8ddf7ca679f64d2327b551", func := "loop.example/assumeguarantee/laws.FnChainSound", spec := "fnChainSound", unfollowed := true, recurses := true, named := ["math/bits.deBruijn32tab", "math/bits.deBruijn64tab"], apart := false, laid := [("math/bits.deBruijn32tab", laid_math_bits_deBruijn32tab), ("math/bits.deBruijn64tab", laid_math_bits_deBruijn64tab)], narrowed := true }
def FnChainSoundUptoSaid : Prop := fnChainSoundUptoRow.holds Tryz.pinned (OpenSpec.upto fnChainSoundSpec)

/-- 'laws.FnChainLinks', WHERE WHAT IT READS IS OF BULK AT MOST 1048576: true; the input reads as it did. -/
def fnChainLinksUptoRow : OpenClaim := { program := "ytndhahednhnnbaagreatdoor", sum := "9bf9471b8af530bb79b00965dc5d5132b90664299c8ddf7ca679f64d2327b551", func := "loop.example/assumeguarantee/laws.FnChainLinks", spec := "fnChainLinks", unfollowed := true, recurses := true, named := ["math/bits.deBruijn32tab", "math/bits.deBruijn64tab"], apart := false, laid := [("math/bits.deBruijn32tab", laid_math_bits_deBruijn32tab), ("math/bits.deBruijn64tab", laid_math_bits_deBruijn64tab)], narrowed := true }
def FnChainLinksUptoSaid : Prop := fnChainLinksUptoRow.holds Tryz.pinned (OpenSpec.upto fnChainLinksSpec)

/-- 'laws.FnCheckFails', WHERE WHAT IT READS IS OF BULK AT MOST 1048576: true; the input reads as it did. -/
def fnCheckFailsUptoRow : OpenClaim := { program := "ytndhahednhnnbaagreatdoor", sum := "9bf9471b8af530bb79b00965dc5d5132b90664299c8ddf7ca679f64d2327b551", func := "loop.example/assumeguarantee/laws.FnCheckFails", spec := "fnCheckFails", unfollowed := true, recurses := true, named := ["math/bits.deBruijn32tab", "math/bits.deBruijn64tab"], apart := false, laid := [("math/bits.deBruijn32tab", laid_math_bits_deBruijn32tab), ("math/bits.deBruijn64tab", laid_math_bits_deBruijn64tab)], narrowed := true }
def FnCheckFailsUptoSaid : Prop := fnCheckFailsUptoRow.holds Tryz.pinned (OpenSpec.upto fnCheckFailsSpec)

/-- 'laws.FnCheckFewer', WHERE WHAT IT READS IS OF BULK AT MOST 1048576: true; the input reads as it did. -/
def fnCheckFewerUptoRow : OpenClaim := { program := "ytndhahednhnnbaagreatdoor", sum := "9bf9471b8af530bb79b00965dc5d5132b90664299c8ddf7ca679f64d2327b551", func := "loop.example/assumeguarantee/laws.FnCheckFewer", spec := "fnCheckFewer", unfollowed := true, recurses := true, named := ["math/bits.deBruijn32tab", "math/bits.deBruijn64tab"], apart := false, laid := [("math/bits.deBruijn32tab", laid_math_bits_deBruijn32tab), ("math/bits.deBruijn64tab", laid_math_bits_deBruijn64tab)], narrowed := true }
def FnCheckFewerUptoSaid : Prop := fnCheckFewerUptoRow.holds Tryz.pinned (OpenSpec.upto fnCheckFewerSpec)

/-- 'laws.FnCheckHolds', WHERE WHAT IT READS IS OF BULK AT MOST 1048576: true; the input reads as it did. -/
def fnCheckHoldsUptoRow : OpenClaim := { program := "ytndhahednhnnbaagreatdoor", sum := "9bf9471b8af530bb79b00965dc5d5132b90664299c8ddf7ca679f64d2327b551", func := "loop.example/assumeguarantee/laws.FnCheckHolds", spec := "fnCheckHolds", unfollowed := true, recurses := true, named := ["math/bits.deBruijn32tab", "math/bits.deBruijn64tab"], apart := false, laid := [("math/bits.deBruijn32tab", laid_math_bits_deBruijn32tab), ("math/bits.deBruijn64tab", laid_math_bits_deBruijn64tab)], narrowed := true }
def FnCheckHoldsUptoSaid : Prop := fnCheckHoldsUptoRow.holds Tryz.pinned (OpenSpec.upto fnCheckHoldsSpec)

/-- 'laws.FnCheckOrder', WHERE WHAT IT READS IS OF BULK AT MOST 1048576: true; the input reads as it did. -/
def fnCheckOrderUptoRow : OpenClaim := { program := "ytndhahednhnnbaagreatdoor", sum := "9bf9471b8af530bb79b00965dc5d5132b90664299c8ddf7ca679f64d2327b551", func := "loop.example/assumeguarantee/laws.FnCheckOrder", spec := "fnCheckOrder", unfollowed := true, recurses := true, named := ["math/bits.deBruijn32tab", "math/bits.deBruijn64tab"], apart := false, laid := [("math/bits.deBruijn32tab", laid_math_bits_deBruijn32tab), ("math/bits.deBruijn64tab", laid_math_bits_deBruijn64tab)], narrowed := true }
def FnCheckOrderUptoSaid : Prop := fnCheckOrderUptoRow.holds Tryz.pinned (OpenSpec.upto fnCheckOrderSpec)

/-- 'laws.FnCheckSound', WHERE WHAT IT READS IS OF BULK AT MOST 1048576: true; the input reads as it did. -/
def fnCheckSoundUptoRow : OpenClaim := { program := "ytndhahednhnnbaagreatdoor", sum := "9bf9471b8af530bb79b00965dc5d5132b90664299c8ddf7ca679f64d2327b551", func := "loop.example/assumeguarantee/laws.FnCheckSound", spec := "fnCheckSound", unfollowed := true, recurses := true, named := ["math/bits.deBruijn32tab", "math/bits.deBruijn64tab"], apart := false, laid := [("math/bits.deBruijn32tab", laid_math_bits_deBruijn32tab), ("math/bits.deBruijn64tab", laid_math_bits_deBruijn64tab)], narrowed := true }
def FnCheckSoundUptoSaid : Prop := fnCheckSoundUptoRow.holds Tryz.pinned (OpenSpec.upto fnCheckSoundSpec)

/-- 'laws.FnCheckTurned', WHERE WHAT IT READS IS OF BULK AT MOST 1048576: true; the input reads as it did. -/
def fnCheckTurnedUptoRow : OpenClaim := { program := "ytndhahednhnnbaagreatdoor", sum := "9bf9471b8af530bb79b00965dc5d5132b90664299c8ddf7ca679f64d2327b551", func := "loop.example/assumeguarantee/laws.FnCheckTurned", spec := "fnCheckTurned", unfollowed := true, recurses := true, named := ["math/bits.deBruijn32tab", "math/bits.deBruijn64tab"], apart := false, laid := [("math/bits.deBruijn32tab", laid_math_bits_deBruijn32tab), ("math/bits.deBruijn64tab", laid_math_bits_deBruijn64tab)], narrowed := true }
def FnCheckTurnedUptoSaid : Prop := fnCheckTurnedUptoRow.holds Tryz.pinned (OpenSpec.upto fnCheckTurnedSpec)

/-- 'laws.FnCheckMore', WHERE WHAT IT READS IS OF BULK AT MOST 1048576: true; the input reads as it did. -/
def fnCheckMoreUptoRow : OpenClaim := { program := "ytndhahednhnnbaagreatdoor", sum := "9bf9471b8af530bb79b00965dc5d5132b90664299c8ddf7ca679f64d2327b551", func := "loop.example/assumeguarantee/laws.FnCheckMore", spec := "fnCheckMore", unfollowed := true, recurses := true, named := ["math/bits.deBruijn32tab", "math/bits.deBruijn64tab"], apart := false, laid := [("math/bits.deBruijn32tab", laid_math_bits_deBruijn32tab), ("math/bits.deBruijn64tab", laid_math_bits_deBruijn64tab)], narrowed := true }
def FnCheckMoreUptoSaid : Prop := fnCheckMoreUptoRow.holds Tryz.pinned (OpenSpec.upto fnCheckMoreSpec)

/-- 'laws.FnCheckLonger', WHERE WHAT IT READS IS OF BULK AT MOST 1048576: true; the input reads as it did. -/
def fnCheckLongerUptoRow : OpenClaim := { program := "ytndhahednhnnbaagreatdoor", sum := "9bf9471b8af530bb79b00965dc5d5132b90664299c8ddf7ca679f64d2327b551", func := "loop.example/assumeguarantee/laws.FnCheckLonger", spec := "fnCheckLonger", unfollowed := true, recurses := true, named := ["math/bits.deBruijn32tab", "math/bits.deBruijn64tab"], apart := false, laid := [("math/bits.deBruijn32tab", laid_math_bits_deBruijn32tab), ("math/bits.deBruijn64tab", laid_math_bits_deBruijn64tab)], narrowed := true }
def FnCheckLongerUptoSaid : Prop := fnCheckLongerUptoRow.holds Tryz.pinned (OpenSpec.upto fnCheckLongerSpec)

end Rows
end Go.Proofs.YtndhahednhnnbaaGreatDoor
