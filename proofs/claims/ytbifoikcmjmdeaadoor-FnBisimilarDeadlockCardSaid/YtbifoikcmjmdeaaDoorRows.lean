/-
  NARROWER THAN 'FOR EVERY INPUT', by the rows' own cells (each row's printed sentence says how): FnSimulatesTrim: laid · FnBisimilar: laid · FnSimulates: laid · FnSimulatesDeterministic: laid · FnBisimilarDeterministic: laid · FnBisimilarDeadlock: laid.
  DERIVED. THE GIVEN ROWS OF THIS SEAT. 6 by the template 'for every input the law returns true; each argument reads behind the call as it read before'; 0 by the template 'total and deterministic' (their statements: YtbifoikcmjmdeaaDoorTotals.lean).
  GIVEN WITH THE SEED: the statements are not yours to turn. If you find one false, say at which input.
  Laid BY PROGRAM, IN A SANDBOX (cutbox-rows.mjs): the forced cells as the released guide's own fill.sh prints them over the translation 503dedbac12c0229… (all of the seat's roots in one cut). By AI agents, Wed Nov 11 2026. No macro, syntax, notation, axiom, sorry.
-/
import Derived.Test.YtbifoikcmjmdeaaDoorChecked
import GoSem.Claim
import GoSem.ClaimJoined
import GoSem.ClaimMapViews
import Derived.JoinedTies
import Derived.KernelRfl
namespace Go.Proofs.YtbifoikcmjmdeaaDoor
/- THE CELL 'sum', in the pinned program and in every row, IS THE sha256 OF THE DUMP (.gsa) THAT YtbifoikcmjmdeaaDoorProg.lean LOADS. Nothing in Lean hashes anything: it is a label: what it is worth is what the hold of that sum in a sandbox is worth. -/
noncomputable def Tryd.pinned : Pinned := { name := "ytbifoikcmjmdeaadoor", sum := "503dedbac12c0229402314d23876d917bad0f69c56571f89106fa273a1361528", checked := Tryd.checked }
namespace Rows
def none {H : Type} : Left H := { results := [], args := [] }

/- WHAT THE LISTED PACKAGE-LEVEL VARIABLES READ AS WHEN THE CALL BEGINS. Each datum BY PROGRAM (the guide's laid-datum.mjs) off the statement by which the dump's own 'gosem.cut.vars' lays the variable. In a bare row this is a premise. The card (YtbifoikcmjmdeaaDoorCards.lean) ties it to the program's text. -/
def laid_math_bits_deBruijn32tab {H : Type} : DataW H := .agg [.lit (.int .u8 0), .lit (.int .u8 1), .lit (.int .u8 28), .lit (.int .u8 2), .lit (.int .u8 29), .lit (.int .u8 14), .lit (.int .u8 24), .lit (.int .u8 3), .lit (.int .u8 30), .lit (.int .u8 22), .lit (.int .u8 20), .lit (.int .u8 15), .lit (.int .u8 25), .lit (.int .u8 17), .lit (.int .u8 4), .lit (.int .u8 8), .lit (.int .u8 31), .lit (.int .u8 27), .lit (.int .u8 13), .lit (.int .u8 23), .lit (.int .u8 21), .lit (.int .u8 19), .lit (.int .u8 16), .lit (.int .u8 7), .lit (.int .u8 26), .lit (.int .u8 12), .lit (.int .u8 18), .lit (.int .u8 6), .lit (.int .u8 11), .lit (.int .u8 5), .lit (.int .u8 10), .lit (.int .u8 9)]
def laid_math_bits_deBruijn64tab {H : Type} : DataW H := .agg [.lit (.int .u8 0), .lit (.int .u8 1), .lit (.int .u8 56), .lit (.int .u8 2), .lit (.int .u8 57), .lit (.int .u8 49), .lit (.int .u8 28), .lit (.int .u8 3), .lit (.int .u8 61), .lit (.int .u8 58), .lit (.int .u8 42), .lit (.int .u8 50), .lit (.int .u8 38), .lit (.int .u8 29), .lit (.int .u8 17), .lit (.int .u8 4), .lit (.int .u8 62), .lit (.int .u8 47), .lit (.int .u8 59), .lit (.int .u8 36), .lit (.int .u8 45), .lit (.int .u8 43), .lit (.int .u8 51), .lit (.int .u8 22), .lit (.int .u8 53), .lit (.int .u8 39), .lit (.int .u8 33), .lit (.int .u8 30), .lit (.int .u8 24), .lit (.int .u8 18), .lit (.int .u8 12), .lit (.int .u8 5), .lit (.int .u8 63), .lit (.int .u8 55), .lit (.int .u8 48), .lit (.int .u8 27), .lit (.int .u8 60), .lit (.int .u8 41), .lit (.int .u8 37), .lit (.int .u8 16), .lit (.int .u8 46), .lit (.int .u8 35), .lit (.int .u8 44), .lit (.int .u8 21), .lit (.int .u8 52), .lit (.int .u8 32), .lit (.int .u8 23), .lit (.int .u8 11), .lit (.int .u8 54), .lit (.int .u8 26), .lit (.int .u8 40), .lit (.int .u8 15), .lit (.int .u8 34), .lit (.int .u8 20), .lit (.int .u8 31), .lit (.int .u8 10), .lit (.int .u8 25), .lit (.int .u8 14), .lit (.int .u8 19), .lit (.int .u8 9), .lit (.int .u8 13), .lit (.int .u8 8), .lit (.int .u8 7), .lit (.int .u8 6)]

/-- 'laws.FnSimulatesTrim': WHATEVER THE INPUT: true; the input reads as it did. -/
def fnSimulatesTrimSpec : ChangeSpec := { name := "fnSimulatesTrim", fn := fun _ => fun
  | [d] => { results := [.lit (.bool true)], args := [d] }
  | _ => none }
def fnSimulatesTrimRow : OpenClaim := { program := "ytbifoikcmjmdeaadoor", sum := "503dedbac12c0229402314d23876d917bad0f69c56571f89106fa273a1361528", func := "loop.example/assumeguarantee/laws.FnSimulatesTrim", spec := "fnSimulatesTrim", recurses := true, named := ["math/bits.deBruijn32tab", "math/bits.deBruijn64tab"], apart := false, laid := [("math/bits.deBruijn32tab", laid_math_bits_deBruijn32tab), ("math/bits.deBruijn64tab", laid_math_bits_deBruijn64tab)] }
def FnSimulatesTrimSaid : Prop := fnSimulatesTrimRow.holds Tryd.pinned (OpenSpec.ofChange fnSimulatesTrimSpec)

/-- ITS FALSE NEIGHBOUR: 'it returns false'. Refute it at one input. -/
def fnSimulatesTrimWrong : ChangeSpec := { name := "fnSimulatesTrim", fn := fun _ => fun
  | [d] => { results := [.lit (.bool false)], args := [d] }
  | _ => none }
def FnSimulatesTrimWrongFalsely : Prop := fnSimulatesTrimRow.holds Tryd.pinned (OpenSpec.ofChange fnSimulatesTrimWrong)

/-- 'laws.FnBisimilar': WHATEVER THE INPUT: true; the input reads as it did. -/
def fnBisimilarSpec : ChangeSpec := { name := "fnBisimilar", fn := fun _ => fun
  | [d] => { results := [.lit (.bool true)], args := [d] }
  | _ => none }
def fnBisimilarRow : OpenClaim := { program := "ytbifoikcmjmdeaadoor", sum := "503dedbac12c0229402314d23876d917bad0f69c56571f89106fa273a1361528", func := "loop.example/assumeguarantee/laws.FnBisimilar", spec := "fnBisimilar", unfollowed := true, recurses := true, named := ["math/bits.deBruijn32tab", "math/bits.deBruijn64tab"], apart := false, laid := [("math/bits.deBruijn32tab", laid_math_bits_deBruijn32tab), ("math/bits.deBruijn64tab", laid_math_bits_deBruijn64tab)] }
def FnBisimilarSaid : Prop := fnBisimilarRow.holds Tryd.pinned (OpenSpec.ofChange fnBisimilarSpec)

/-- ITS FALSE NEIGHBOUR: 'it returns false'. Refute it at one input. -/
def fnBisimilarWrong : ChangeSpec := { name := "fnBisimilar", fn := fun _ => fun
  | [d] => { results := [.lit (.bool false)], args := [d] }
  | _ => none }
def FnBisimilarWrongFalsely : Prop := fnBisimilarRow.holds Tryd.pinned (OpenSpec.ofChange fnBisimilarWrong)

/-- 'laws.FnSimulates': WHATEVER THE INPUT: true; the input reads as it did. -/
def fnSimulatesSpec : ChangeSpec := { name := "fnSimulates", fn := fun _ => fun
  | [d] => { results := [.lit (.bool true)], args := [d] }
  | _ => none }
def fnSimulatesRow : OpenClaim := { program := "ytbifoikcmjmdeaadoor", sum := "503dedbac12c0229402314d23876d917bad0f69c56571f89106fa273a1361528", func := "loop.example/assumeguarantee/laws.FnSimulates", spec := "fnSimulates", unfollowed := true, recurses := true, named := ["math/bits.deBruijn32tab", "math/bits.deBruijn64tab"], apart := false, laid := [("math/bits.deBruijn32tab", laid_math_bits_deBruijn32tab), ("math/bits.deBruijn64tab", laid_math_bits_deBruijn64tab)] }
def FnSimulatesSaid : Prop := fnSimulatesRow.holds Tryd.pinned (OpenSpec.ofChange fnSimulatesSpec)

/-- ITS FALSE NEIGHBOUR: 'it returns false'. Refute it at one input. -/
def fnSimulatesWrong : ChangeSpec := { name := "fnSimulates", fn := fun _ => fun
  | [d] => { results := [.lit (.bool false)], args := [d] }
  | _ => none }
def FnSimulatesWrongFalsely : Prop := fnSimulatesRow.holds Tryd.pinned (OpenSpec.ofChange fnSimulatesWrong)

/-- 'laws.FnSimulatesDeterministic': WHATEVER THE INPUT: true; the input reads as it did. -/
def fnSimulatesDeterministicSpec : ChangeSpec := { name := "fnSimulatesDeterministic", fn := fun _ => fun
  | [d] => { results := [.lit (.bool true)], args := [d] }
  | _ => none }
def fnSimulatesDeterministicRow : OpenClaim := { program := "ytbifoikcmjmdeaadoor", sum := "503dedbac12c0229402314d23876d917bad0f69c56571f89106fa273a1361528", func := "loop.example/assumeguarantee/laws.FnSimulatesDeterministic", spec := "fnSimulatesDeterministic", unfollowed := true, recurses := true, named := ["math/bits.deBruijn32tab", "math/bits.deBruijn64tab"], apart := false, laid := [("math/bits.deBruijn32tab", laid_math_bits_deBruijn32tab), ("math/bits.deBruijn64tab", laid_math_bits_deBruijn64tab)] }
def FnSimulatesDeterministicSaid : Prop := fnSimulatesDeterministicRow.holds Tryd.pinned (OpenSpec.ofChange fnSimulatesDeterministicSpec)

/-- ITS FALSE NEIGHBOUR: 'it returns false'. Refute it at one input. -/
def fnSimulatesDeterministicWrong : ChangeSpec := { name := "fnSimulatesDeterministic", fn := fun _ => fun
  | [d] => { results := [.lit (.bool false)], args := [d] }
  | _ => none }
def FnSimulatesDeterministicWrongFalsely : Prop := fnSimulatesDeterministicRow.holds Tryd.pinned (OpenSpec.ofChange fnSimulatesDeterministicWrong)

/-- 'laws.FnBisimilarDeterministic': WHATEVER THE INPUT: true; the input reads as it did. -/
def fnBisimilarDeterministicSpec : ChangeSpec := { name := "fnBisimilarDeterministic", fn := fun _ => fun
  | [d] => { results := [.lit (.bool true)], args := [d] }
  | _ => none }
def fnBisimilarDeterministicRow : OpenClaim := { program := "ytbifoikcmjmdeaadoor", sum := "503dedbac12c0229402314d23876d917bad0f69c56571f89106fa273a1361528", func := "loop.example/assumeguarantee/laws.FnBisimilarDeterministic", spec := "fnBisimilarDeterministic", unfollowed := true, recurses := true, named := ["math/bits.deBruijn32tab", "math/bits.deBruijn64tab"], apart := false, laid := [("math/bits.deBruijn32tab", laid_math_bits_deBruijn32tab), ("math/bits.deBruijn64tab", laid_math_bits_deBruijn64tab)] }
def FnBisimilarDeterministicSaid : Prop := fnBisimilarDeterministicRow.holds Tryd.pinned (OpenSpec.ofChange fnBisimilarDeterministicSpec)

/-- ITS FALSE NEIGHBOUR: 'it returns false'. Refute it at one input. -/
def fnBisimilarDeterministicWrong : ChangeSpec := { name := "fnBisimilarDeterministic", fn := fun _ => fun
  | [d] => { results := [.lit (.bool false)], args := [d] }
  | _ => none }
def FnBisimilarDeterministicWrongFalsely : Prop := fnBisimilarDeterministicRow.holds Tryd.pinned (OpenSpec.ofChange fnBisimilarDeterministicWrong)

/-- 'laws.FnBisimilarDeadlock': WHATEVER THE INPUT: true; the input reads as it did. -/
def fnBisimilarDeadlockSpec : ChangeSpec := { name := "fnBisimilarDeadlock", fn := fun _ => fun
  | [d] => { results := [.lit (.bool true)], args := [d] }
  | _ => none }
def fnBisimilarDeadlockRow : OpenClaim := { program := "ytbifoikcmjmdeaadoor", sum := "503dedbac12c0229402314d23876d917bad0f69c56571f89106fa273a1361528", func := "loop.example/assumeguarantee/laws.FnBisimilarDeadlock", spec := "fnBisimilarDeadlock", unfollowed := true, recurses := true, named := ["math/bits.deBruijn32tab", "math/bits.deBruijn64tab"], apart := false, laid := [("math/bits.deBruijn32tab", laid_math_bits_deBruijn32tab), ("math/bits.deBruijn64tab", laid_math_bits_deBruijn64tab)] }
def FnBisimilarDeadlockSaid : Prop := fnBisimilarDeadlockRow.holds Tryd.pinned (OpenSpec.ofChange fnBisimilarDeadlockSpec)

/-- ITS FALSE NEIGHBOUR: 'it returns false'. Refute it at one input. -/
def fnBisimilarDeadlockWrong : ChangeSpec := { name := "fnBisimilarDeadlock", fn := fun _ => fun
  | [d] => { results := [.lit (.bool false)], args := [d] }
  | _ => none }
def FnBisimilarDeadlockWrongFalsely : Prop := fnBisimilarDeadlockRow.holds Tryd.pinned (OpenSpec.ofChange fnBisimilarDeadlockWrong)

/- THE SECOND FORM. 'bulk': how many values and letters a reading holds, each counted each time it is reached (what is shared counts as often as it is met; a slice's spare places count too). A statement '..UptoSaid' is the law's where the arguments, and the package variables that the reading takes, are together of bulk at most 1048576: NARROWER than '..Said'. Prove '..Said' where nothing that the law and all that it calls make is longer than what came in: it says more and counts as full. Else prove '..UptoSaid'. A law counts once. -/
mutual
def uptoBulk {H : Type} : DataW H → Nat
  | .lit (.string bytes) => bytes.length + 1
  | .lit _ => 1
  | .nil => 1
  | .ptr d => uptoBulk d + 1
  | .slice elems spare => uptoBulkAll elems + uptoBulkAll spare + 1
  | .agg parts => uptoBulkAll parts + 1
  | .iface _ d => uptoBulk d + 1
  | .map entries => uptoBulkEntries entries + 1
  | .held _ => 1
def uptoBulkAll {H : Type} : List (DataW H) → Nat
  | [] => 0
  | d :: r => uptoBulk d + uptoBulkAll r
def uptoBulkEntries {H : Type} : List (Lit × DataW H) → Nat
  | [] => 0
  | x :: r => uptoBulkEntry x + uptoBulkEntries r
def uptoBulkEntry {H : Type} : Lit × DataW H → Nat
  | (.string bytes, d) => bytes.length + uptoBulk d + 1
  | (_, d) => uptoBulk d + 1
 end
def uptoSmall : (H : Type) → List (DataW H) → Bool := fun _ ds => decide (uptoBulkAll ds ≤ 1048576)
def OpenSpec.upto (s : _root_.Go.ChangeSpec) : _root_.Go.OpenSpec := { _root_.Go.OpenSpec.ofChange s with cond := some uptoSmall }

/-- 'laws.FnSimulatesTrim', WHERE WHAT IT READS IS OF BULK AT MOST 1048576: true; the input reads as it did. -/
def fnSimulatesTrimUptoRow : OpenClaim := { program := "ytbifoikcmjmdeaadoor", sum := "503dedbac12c0229402314d23876d917bad0f69c56571f89106fa273a1361528", func := "loop.example/assumeguarantee/laws.FnSimulatesTrim", spec := "fnSimulatesTrim", recurses := true, named := ["math/bits.deBruijn32tab", "math/bits.deBruijn64tab"], apart := false, laid := [("math/bits.deBruijn32tab", laid_math_bits_deBruijn32tab), ("math/bits.deBruijn64tab", laid_math_bits_deBruijn64tab)], narrowed := true }
def FnSimulatesTrimUptoSaid : Prop := fnSimulatesTrimUptoRow.holds Tryd.pinned (OpenSpec.upto fnSimulatesTrimSpec)

/-- 'laws.FnBisimilar', WHERE WHAT IT READS IS OF BULK AT MOST 1048576: true; the input reads as it did. -/
def fnBisimilarUptoRow : OpenClaim := { program := "ytbifoikcmjmdeaadoor", sum := "503dedbac12c0229402314d23876d917bad0f69c56571f89106fa273a1361528", func := "loop.example/assumeguarantee/laws.FnBisimilar", spec := "fnBisimilar", unfollowed := true, recurses := true, named := ["math/bits.deBruijn32tab", "math/bits.deBruijn64tab"], apart := false, laid := [("math/bits.deBruijn32tab", laid_math_bits_deBruijn32tab), ("math/bits.deBruijn64tab", laid_math_bits_deBruijn64tab)], narrowed := true }
def FnBisimilarUptoSaid : Prop := fnBisimilarUptoRow.holds Tryd.pinned (OpenSpec.upto fnBisimilarSpec)

/-- 'laws.FnSimulates', WHERE WHAT IT READS IS OF BULK AT MOST 1048576: true; the input reads as it did. -/
def fnSimulatesUptoRow : OpenClaim := { program := "ytbifoikcmjmdeaadoor", sum := "503dedbac12c0229402314d23876d917bad0f69c56571f89106fa273a1361528", func := "loop.example/assumeguarantee/laws.FnSimulates", spec := "fnSimulates", unfollowed := true, recurses := true, named := ["math/bits.deBruijn32tab", "math/bits.deBruijn64tab"], apart := false, laid := [("math/bits.deBruijn32tab", laid_math_bits_deBruijn32tab), ("math/bits.deBruijn64tab", laid_math_bits_deBruijn64tab)], narrowed := true }
def FnSimulatesUptoSaid : Prop := fnSimulatesUptoRow.holds Tryd.pinned (OpenSpec.upto fnSimulatesSpec)

/-- 'laws.FnSimulatesDeterministic', WHERE WHAT IT READS IS OF BULK AT MOST 1048576: true; the input reads as it did. -/
def fnSimulatesDeterministicUptoRow : OpenClaim := { program := "ytbifoikcmjmdeaadoor", sum := "503dedbac12c0229402314d23876d917bad0f69c56571f89106fa273a1361528", func := "loop.example/assumeguarantee/laws.FnSimulatesDeterministic", spec := "fnSimulatesDeterministic", unfollowed := true, recurses := true, named := ["math/bits.deBruijn32tab", "math/bits.deBruijn64tab"], apart := false, laid := [("math/bits.deBruijn32tab", laid_math_bits_deBruijn32tab), ("math/bits.deBruijn64tab", laid_math_bits_deBruijn64tab)], narrowed := true }
def FnSimulatesDeterministicUptoSaid : Prop := fnSimulatesDeterministicUptoRow.holds Tryd.pinned (OpenSpec.upto fnSimulatesDeterministicSpec)

/-- 'laws.FnBisimilarDeterministic', WHERE WHAT IT READS IS OF BULK AT MOST 1048576: true; the input reads as it did. -/
def fnBisimilarDeterministicUptoRow : OpenClaim := { program := "ytbifoikcmjmdeaadoor", sum := "503dedbac12c0229402314d23876d917bad0f69c56571f89106fa273a1361528", func := "loop.example/assumeguarantee/laws.FnBisimilarDeterministic", spec := "fnBisimilarDeterministic", unfollowed := true, recurses := true, named := ["math/bits.deBruijn32tab", "math/bits.deBruijn64tab"], apart := false, laid := [("math/bits.deBruijn32tab", laid_math_bits_deBruijn32tab), ("math/bits.deBruijn64tab", laid_math_bits_deBruijn64tab)], narrowed := true }
def FnBisimilarDeterministicUptoSaid : Prop := fnBisimilarDeterministicUptoRow.holds Tryd.pinned (OpenSpec.upto fnBisimilarDeterministicSpec)

/-- 'laws.FnBisimilarDeadlock', WHERE WHAT IT READS IS OF BULK AT MOST 1048576: true; the input reads as it did. -/
def fnBisimilarDeadlockUptoRow : OpenClaim := { program := "ytbifoikcmjmdeaadoor", sum := "503dedbac12c0229402314d23876d917bad0f69c56571f89106fa273a1361528", func := "loop.example/assumeguarantee/laws.FnBisimilarDeadlock", spec := "fnBisimilarDeadlock", unfollowed := true, recurses := true, named := ["math/bits.deBruijn32tab", "math/bits.deBruijn64tab"], apart := false, laid := [("math/bits.deBruijn32tab", laid_math_bits_deBruijn32tab), ("math/bits.deBruijn64tab", laid_math_bits_deBruijn64tab)], narrowed := true }
def FnBisimilarDeadlockUptoSaid : Prop := fnBisimilarDeadlockUptoRow.holds Tryd.pinned (OpenSpec.upto fnBisimilarDeadlockSpec)

end Rows
end Go.Proofs.YtbifoikcmjmdeaaDoor
