/-
  No cell of these rows narrows 'for every input' (looked for: loops, veiled, ifaces, maps, wideKeys, modest, calm, conditions, laid).
  DERIVED. THE GIVEN ROWS OF THIS SEAT. 4 by the template 'for every input the law returns true; each argument reads behind the call as it read before'; 0 by the template 'total and deterministic' (their statements: YtemnfjcjjekfgaaTotals.lean).
  GIVEN WITH THE SEED: the statements are not yours to turn. If you find one false, say at which input.
  Laid BY PROGRAM, IN A SANDBOX (cutbox-rows.mjs): the forced cells as the released guide's own fill.sh prints them over the translation c353ae004a3ab342… (all of the seat's roots in one cut). By AI agents, Wed Nov 11 2026. No macro, syntax, notation, axiom, sorry.
-/
import Derived.Test.YtemnfjcjjekfgaaChecked
import GoSem.Claim
import GoSem.ClaimJoined
import GoSem.ClaimMapViews
import Derived.JoinedTies
import Derived.KernelRfl
namespace Go.Proofs.Ytemnfjcjjekfgaa
/- THE CELL 'sum', in the pinned program and in every row, IS THE sha256 OF THE DUMP (.gsa) THAT YtemnfjcjjekfgaaProg.lean LOADS. Nothing in Lean hashes anything: it is a label: what it is worth is what the hold of that sum in a sandbox is worth. -/
noncomputable def Try.pinned : Pinned := { name := "ytemnfjcjjekfgaa", sum := "c353ae004a3ab342f938948df154e2b1235e11a502014cac6436b6104f60d9e5", checked := Try.checked }
namespace Rows
def none {H : Type} : Left H := { results := [], args := [] }

/-- 'laws.FnNeighbours': WHATEVER THE INPUT: true; the input reads as it did. -/
def fnNeighboursSpec : ChangeSpec := { name := "fnNeighbours", fn := fun _ => fun
  | [d] => { results := [.lit (.bool true)], args := [d] }
  | _ => none }
def fnNeighboursRow : OpenClaim := { program := "ytemnfjcjjekfgaa", sum := "c353ae004a3ab342f938948df154e2b1235e11a502014cac6436b6104f60d9e5", func := "loop.example/constraintsolver/laws.FnNeighbours", spec := "fnNeighbours", unfollowed := true, recurses := true, apart := false }
def FnNeighboursSaid : Prop := fnNeighboursRow.holds Try.pinned (OpenSpec.ofChange fnNeighboursSpec)

/-- ITS FALSE NEIGHBOUR: 'it returns false'. Refute it at one input. -/
def fnNeighboursWrong : ChangeSpec := { name := "fnNeighbours", fn := fun _ => fun
  | [d] => { results := [.lit (.bool false)], args := [d] }
  | _ => none }
def FnNeighboursWrongFalsely : Prop := fnNeighboursRow.holds Try.pinned (OpenSpec.ofChange fnNeighboursWrong)

/-- 'laws.FnExactIsSeparator': WHATEVER THE INPUT: true; the input reads as it did. -/
def fnExactIsSeparatorSpec : ChangeSpec := { name := "fnExactIsSeparator", fn := fun _ => fun
  | [d1, d2, d3, d4] => { results := [.lit (.bool true)], args := [d1, d2, d3, d4] }
  | _ => none }
def fnExactIsSeparatorRow : OpenClaim := { program := "ytemnfjcjjekfgaa", sum := "c353ae004a3ab342f938948df154e2b1235e11a502014cac6436b6104f60d9e5", func := "loop.example/constraintsolver/laws.FnExactIsSeparator", spec := "fnExactIsSeparator", unfollowed := true, recurses := true, apart := false }
def FnExactIsSeparatorSaid : Prop := fnExactIsSeparatorRow.holds Try.pinned (OpenSpec.ofChange fnExactIsSeparatorSpec)

/-- ITS FALSE NEIGHBOUR: 'it returns false'. Refute it at one input. -/
def fnExactIsSeparatorWrong : ChangeSpec := { name := "fnExactIsSeparator", fn := fun _ => fun
  | [d1, d2, d3, d4] => { results := [.lit (.bool false)], args := [d1, d2, d3, d4] }
  | _ => none }
def FnExactIsSeparatorWrongFalsely : Prop := fnExactIsSeparatorRow.holds Try.pinned (OpenSpec.ofChange fnExactIsSeparatorWrong)

/-- 'laws.FnExactNeighbours': WHATEVER THE INPUT: true; the input reads as it did. -/
def fnExactNeighboursSpec : ChangeSpec := { name := "fnExactNeighbours", fn := fun _ => fun
  | [d1, d2] => { results := [.lit (.bool true)], args := [d1, d2] }
  | _ => none }
def fnExactNeighboursRow : OpenClaim := { program := "ytemnfjcjjekfgaa", sum := "c353ae004a3ab342f938948df154e2b1235e11a502014cac6436b6104f60d9e5", func := "loop.example/constraintsolver/laws.FnExactNeighbours", spec := "fnExactNeighbours", unfollowed := true, recurses := true, apart := false }
def FnExactNeighboursSaid : Prop := fnExactNeighboursRow.holds Try.pinned (OpenSpec.ofChange fnExactNeighboursSpec)

/-- ITS FALSE NEIGHBOUR: 'it returns false'. Refute it at one input. -/
def fnExactNeighboursWrong : ChangeSpec := { name := "fnExactNeighbours", fn := fun _ => fun
  | [d1, d2] => { results := [.lit (.bool false)], args := [d1, d2] }
  | _ => none }
def FnExactNeighboursWrongFalsely : Prop := fnExactNeighboursRow.holds Try.pinned (OpenSpec.ofChange fnExactNeighboursWrong)

/-- 'laws.FnExactEliminationWidth': WHATEVER THE INPUT: true; the input reads as it did. -/
def fnExactEliminationWidthSpec : ChangeSpec := { name := "fnExactEliminationWidth", fn := fun _ => fun
  | [d1, d2] => { results := [.lit (.bool true)], args := [d1, d2] }
  | _ => none }
def fnExactEliminationWidthRow : OpenClaim := { program := "ytemnfjcjjekfgaa", sum := "c353ae004a3ab342f938948df154e2b1235e11a502014cac6436b6104f60d9e5", func := "loop.example/constraintsolver/laws.FnExactEliminationWidth", spec := "fnExactEliminationWidth", unfollowed := true, recurses := true, apart := false }
def FnExactEliminationWidthSaid : Prop := fnExactEliminationWidthRow.holds Try.pinned (OpenSpec.ofChange fnExactEliminationWidthSpec)

/-- ITS FALSE NEIGHBOUR: 'it returns false'. Refute it at one input. -/
def fnExactEliminationWidthWrong : ChangeSpec := { name := "fnExactEliminationWidth", fn := fun _ => fun
  | [d1, d2] => { results := [.lit (.bool false)], args := [d1, d2] }
  | _ => none }
def FnExactEliminationWidthWrongFalsely : Prop := fnExactEliminationWidthRow.holds Try.pinned (OpenSpec.ofChange fnExactEliminationWidthWrong)

/- THE SECOND FORM. 'bulk': how many values and letters a reading holds, each counted each time it is reached (what is shared counts as often as it is met; a slice's spare places count too). A statement '..UptoSaid' is the law's where the arguments, and the package variables that the reading takes, are together of bulk at most 1048576: NARROWER than '..Said'. Prove '..Said' where nothing that the law and all that it calls make is longer than what came in: it says more and counts as full. Else prove '..UptoSaid'. A law counts once. -/
mutual
def uptoBulk {H : Type} : DataW H → Nat
  | .lit (.string bytes) => bytes.length + 1
  | .lit _ => 1
  | .nil => 1
  | .ptr d => uptoBulk d + 1
  | .slice elems spare => uptoBulkAll elems + uptoBulkAll spare + 1
  | .agg parts => uptoBulkAll parts + 1
  | .iface _ d => uptoBulk d + 1
  | .map entries => uptoBulkEntries entries + 1
  | .held _ => 1
def uptoBulkAll {H : Type} : List (DataW H) → Nat
  | [] => 0
  | d :: r => uptoBulk d + uptoBulkAll r
def uptoBulkEntries {H : Type} : List (Lit × DataW H) → Nat
  | [] => 0
  | x :: r => uptoBulkEntry x + uptoBulkEntries r
def uptoBulkEntry {H : Type} : Lit × DataW H → Nat
  | (.string bytes, d) => bytes.length + uptoBulk d + 1
  | (_, d) => uptoBulk d + 1
 end
def uptoSmall : (H : Type) → List (DataW H) → Bool := fun _ ds => decide (uptoBulkAll ds ≤ 1048576)
def OpenSpec.upto (s : _root_.Go.ChangeSpec) : _root_.Go.OpenSpec := { _root_.Go.OpenSpec.ofChange s with cond := some uptoSmall }

/-- 'laws.FnNeighbours', WHERE WHAT IT READS IS OF BULK AT MOST 1048576: true; the input reads as it did. -/
def fnNeighboursUptoRow : OpenClaim := { program := "ytemnfjcjjekfgaa", sum := "c353ae004a3ab342f938948df154e2b1235e11a502014cac6436b6104f60d9e5", func := "loop.example/constraintsolver/laws.FnNeighbours", spec := "fnNeighbours", unfollowed := true, recurses := true, apart := false, narrowed := true }
def FnNeighboursUptoSaid : Prop := fnNeighboursUptoRow.holds Try.pinned (OpenSpec.upto fnNeighboursSpec)

/-- 'laws.FnExactIsSeparator', WHERE WHAT IT READS IS OF BULK AT MOST 1048576: true; the input reads as it did. -/
def fnExactIsSeparatorUptoRow : OpenClaim := { program := "ytemnfjcjjekfgaa", sum := "c353ae004a3ab342f938948df154e2b1235e11a502014cac6436b6104f60d9e5", func := "loop.example/constraintsolver/laws.FnExactIsSeparator", spec := "fnExactIsSeparator", unfollowed := true, recurses := true, apart := false, narrowed := true }
def FnExactIsSeparatorUptoSaid : Prop := fnExactIsSeparatorUptoRow.holds Try.pinned (OpenSpec.upto fnExactIsSeparatorSpec)

/-- 'laws.FnExactNeighbours', WHERE WHAT IT READS IS OF BULK AT MOST 1048576: true; the input reads as it did. -/
def fnExactNeighboursUptoRow : OpenClaim := { program := "ytemnfjcjjekfgaa", sum := "c353ae004a3ab342f938948df154e2b1235e11a502014cac6436b6104f60d9e5", func := "loop.example/constraintsolver/laws.FnExactNeighbours", spec := "fnExactNeighbours", unfollowed := true, recurses := true, apart := false, narrowed := true }
def FnExactNeighboursUptoSaid : Prop := fnExactNeighboursUptoRow.holds Try.pinned (OpenSpec.upto fnExactNeighboursSpec)

/-- 'laws.FnExactEliminationWidth', WHERE WHAT IT READS IS OF BULK AT MOST 1048576: true; the input reads as it did. -/
def fnExactEliminationWidthUptoRow : OpenClaim := { program := "ytemnfjcjjekfgaa", sum := "c353ae004a3ab342f938948df154e2b1235e11a502014cac6436b6104f60d9e5", func := "loop.example/constraintsolver/laws.FnExactEliminationWidth", spec := "fnExactEliminationWidth", unfollowed := true, recurses := true, apart := false, narrowed := true }
def FnExactEliminationWidthUptoSaid : Prop := fnExactEliminationWidthUptoRow.holds Try.pinned (OpenSpec.upto fnExactEliminationWidthSpec)

end Rows
end Go.Proofs.Ytemnfjcjjekfgaa
