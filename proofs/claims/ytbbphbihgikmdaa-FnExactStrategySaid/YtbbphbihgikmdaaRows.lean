/-
  No cell of these rows narrows 'for every input' (looked for: loops, veiled, ifaces, maps, wideKeys, modest, calm, conditions, laid).
  DERIVED. THE GIVEN ROWS OF THIS SEAT. 7 by the template 'for every input the law returns true; each argument reads behind the call as it read before'; 0 by the template 'total and deterministic' (their statements: YtbbphbihgikmdaaTotals.lean).
  GIVEN WITH THE SEED: the statements are not yours to turn. If you find one false, say at which input.
  Laid BY PROGRAM, IN A SANDBOX (cutbox-rows.mjs): the forced cells as the released guide's own fill.sh prints them over the translation a54050f2cff37029… (all of the seat's roots in one cut). By AI agents, Wed Nov 11 2026. No macro, syntax, notation, axiom, sorry.
-/
import Derived.Test.YtbbphbihgikmdaaChecked
import GoSem.Claim
import GoSem.ClaimJoined
import GoSem.ClaimMapViews
import Derived.JoinedTies
import Derived.KernelRfl
namespace Go.Proofs.Ytbbphbihgikmdaa
/- THE CELL 'sum', in the pinned program and in every row, IS THE sha256 OF THE DUMP (.gsa) THAT YtbbphbihgikmdaaProg.lean LOADS. Nothing in Lean hashes anything: it is a label: what it is worth is what the hold of that sum in a sandbox is worth. -/
noncomputable def Try.pinned : Pinned := { name := "ytbbphbihgikmdaa", sum := "a54050f2cff37029d1f53f4df24979b1c41aa51c820e780803b0f7651ab96db0", checked := Try.checked }
namespace Rows
def none {H : Type} : Left H := { results := [], args := [] }

/-- 'laws.FnExactRobustAssignment': WHATEVER THE INPUT: true; the input reads as it did. -/
def fnExactRobustAssignmentSpec : ChangeSpec := { name := "fnExactRobustAssignment", fn := fun _ => fun
  | [d1, d2] => { results := [.lit (.bool true)], args := [d1, d2] }
  | _ => none }
def fnExactRobustAssignmentRow : OpenClaim := { program := "ytbbphbihgikmdaa", sum := "a54050f2cff37029d1f53f4df24979b1c41aa51c820e780803b0f7651ab96db0", func := "loop.example/constraintsolver/laws.FnExactRobustAssignment", spec := "fnExactRobustAssignment", unfollowed := true, recurses := true, apart := false }
def FnExactRobustAssignmentSaid : Prop := fnExactRobustAssignmentRow.holds Try.pinned (OpenSpec.ofChange fnExactRobustAssignmentSpec)

/-- ITS FALSE NEIGHBOUR: 'it returns false'. Refute it at one input. -/
def fnExactRobustAssignmentWrong : ChangeSpec := { name := "fnExactRobustAssignment", fn := fun _ => fun
  | [d1, d2] => { results := [.lit (.bool false)], args := [d1, d2] }
  | _ => none }
def FnExactRobustAssignmentWrongFalsely : Prop := fnExactRobustAssignmentRow.holds Try.pinned (OpenSpec.ofChange fnExactRobustAssignmentWrong)

/-- 'laws.FnExactCheckStrategy': WHATEVER THE INPUT: true; the input reads as it did. -/
def fnExactCheckStrategySpec : ChangeSpec := { name := "fnExactCheckStrategy", fn := fun _ => fun
  | [d1, d2, d3] => { results := [.lit (.bool true)], args := [d1, d2, d3] }
  | _ => none }
def fnExactCheckStrategyRow : OpenClaim := { program := "ytbbphbihgikmdaa", sum := "a54050f2cff37029d1f53f4df24979b1c41aa51c820e780803b0f7651ab96db0", func := "loop.example/constraintsolver/laws.FnExactCheckStrategy", spec := "fnExactCheckStrategy", unfollowed := true, recurses := true, apart := false }
def FnExactCheckStrategySaid : Prop := fnExactCheckStrategyRow.holds Try.pinned (OpenSpec.ofChange fnExactCheckStrategySpec)

/-- ITS FALSE NEIGHBOUR: 'it returns false'. Refute it at one input. -/
def fnExactCheckStrategyWrong : ChangeSpec := { name := "fnExactCheckStrategy", fn := fun _ => fun
  | [d1, d2, d3] => { results := [.lit (.bool false)], args := [d1, d2, d3] }
  | _ => none }
def FnExactCheckStrategyWrongFalsely : Prop := fnExactCheckStrategyRow.holds Try.pinned (OpenSpec.ofChange fnExactCheckStrategyWrong)

/-- 'laws.FnExactMarginals': WHATEVER THE INPUT: true; the input reads as it did. -/
def fnExactMarginalsSpec : ChangeSpec := { name := "fnExactMarginals", fn := fun _ => fun
  | [d] => { results := [.lit (.bool true)], args := [d] }
  | _ => none }
def fnExactMarginalsRow : OpenClaim := { program := "ytbbphbihgikmdaa", sum := "a54050f2cff37029d1f53f4df24979b1c41aa51c820e780803b0f7651ab96db0", func := "loop.example/constraintsolver/laws.FnExactMarginals", spec := "fnExactMarginals", unfollowed := true, recurses := true, apart := false }
def FnExactMarginalsSaid : Prop := fnExactMarginalsRow.holds Try.pinned (OpenSpec.ofChange fnExactMarginalsSpec)

/-- ITS FALSE NEIGHBOUR: 'it returns false'. Refute it at one input. -/
def fnExactMarginalsWrong : ChangeSpec := { name := "fnExactMarginals", fn := fun _ => fun
  | [d] => { results := [.lit (.bool false)], args := [d] }
  | _ => none }
def FnExactMarginalsWrongFalsely : Prop := fnExactMarginalsRow.holds Try.pinned (OpenSpec.ofChange fnExactMarginalsWrong)

/-- 'laws.FnExactEliminationWidth': WHATEVER THE INPUT: true; the input reads as it did. -/
def fnExactEliminationWidthSpec : ChangeSpec := { name := "fnExactEliminationWidth", fn := fun _ => fun
  | [d1, d2] => { results := [.lit (.bool true)], args := [d1, d2] }
  | _ => none }
def fnExactEliminationWidthRow : OpenClaim := { program := "ytbbphbihgikmdaa", sum := "a54050f2cff37029d1f53f4df24979b1c41aa51c820e780803b0f7651ab96db0", func := "loop.example/constraintsolver/laws.FnExactEliminationWidth", spec := "fnExactEliminationWidth", unfollowed := true, recurses := true, apart := false }
def FnExactEliminationWidthSaid : Prop := fnExactEliminationWidthRow.holds Try.pinned (OpenSpec.ofChange fnExactEliminationWidthSpec)

/-- ITS FALSE NEIGHBOUR: 'it returns false'. Refute it at one input. -/
def fnExactEliminationWidthWrong : ChangeSpec := { name := "fnExactEliminationWidth", fn := fun _ => fun
  | [d1, d2] => { results := [.lit (.bool false)], args := [d1, d2] }
  | _ => none }
def FnExactEliminationWidthWrongFalsely : Prop := fnExactEliminationWidthRow.holds Try.pinned (OpenSpec.ofChange fnExactEliminationWidthWrong)

/-- 'laws.FnExactNeighbourhood': WHATEVER THE INPUT: true; the input reads as it did. -/
def fnExactNeighbourhoodSpec : ChangeSpec := { name := "fnExactNeighbourhood", fn := fun _ => fun
  | [d1, d2, d3] => { results := [.lit (.bool true)], args := [d1, d2, d3] }
  | _ => none }
def fnExactNeighbourhoodRow : OpenClaim := { program := "ytbbphbihgikmdaa", sum := "a54050f2cff37029d1f53f4df24979b1c41aa51c820e780803b0f7651ab96db0", func := "loop.example/constraintsolver/laws.FnExactNeighbourhood", spec := "fnExactNeighbourhood", unfollowed := true, recurses := true, apart := false }
def FnExactNeighbourhoodSaid : Prop := fnExactNeighbourhoodRow.holds Try.pinned (OpenSpec.ofChange fnExactNeighbourhoodSpec)

/-- ITS FALSE NEIGHBOUR: 'it returns false'. Refute it at one input. -/
def fnExactNeighbourhoodWrong : ChangeSpec := { name := "fnExactNeighbourhood", fn := fun _ => fun
  | [d1, d2, d3] => { results := [.lit (.bool false)], args := [d1, d2, d3] }
  | _ => none }
def FnExactNeighbourhoodWrongFalsely : Prop := fnExactNeighbourhoodRow.holds Try.pinned (OpenSpec.ofChange fnExactNeighbourhoodWrong)

/-- 'laws.FnExactSubModel': WHATEVER THE INPUT: true; the input reads as it did. -/
def fnExactSubModelSpec : ChangeSpec := { name := "fnExactSubModel", fn := fun _ => fun
  | [d1, d2] => { results := [.lit (.bool true)], args := [d1, d2] }
  | _ => none }
def fnExactSubModelRow : OpenClaim := { program := "ytbbphbihgikmdaa", sum := "a54050f2cff37029d1f53f4df24979b1c41aa51c820e780803b0f7651ab96db0", func := "loop.example/constraintsolver/laws.FnExactSubModel", spec := "fnExactSubModel", unfollowed := true, recurses := true, apart := false }
def FnExactSubModelSaid : Prop := fnExactSubModelRow.holds Try.pinned (OpenSpec.ofChange fnExactSubModelSpec)

/-- ITS FALSE NEIGHBOUR: 'it returns false'. Refute it at one input. -/
def fnExactSubModelWrong : ChangeSpec := { name := "fnExactSubModel", fn := fun _ => fun
  | [d1, d2] => { results := [.lit (.bool false)], args := [d1, d2] }
  | _ => none }
def FnExactSubModelWrongFalsely : Prop := fnExactSubModelRow.holds Try.pinned (OpenSpec.ofChange fnExactSubModelWrong)

/-- 'laws.FnExactStrategy': WHATEVER THE INPUT: true; the input reads as it did. -/
def fnExactStrategySpec : ChangeSpec := { name := "fnExactStrategy", fn := fun _ => fun
  | [d1, d2] => { results := [.lit (.bool true)], args := [d1, d2] }
  | _ => none }
def fnExactStrategyRow : OpenClaim := { program := "ytbbphbihgikmdaa", sum := "a54050f2cff37029d1f53f4df24979b1c41aa51c820e780803b0f7651ab96db0", func := "loop.example/constraintsolver/laws.FnExactStrategy", spec := "fnExactStrategy", unfollowed := true, recurses := true, apart := false }
def FnExactStrategySaid : Prop := fnExactStrategyRow.holds Try.pinned (OpenSpec.ofChange fnExactStrategySpec)

/-- ITS FALSE NEIGHBOUR: 'it returns false'. Refute it at one input. -/
def fnExactStrategyWrong : ChangeSpec := { name := "fnExactStrategy", fn := fun _ => fun
  | [d1, d2] => { results := [.lit (.bool false)], args := [d1, d2] }
  | _ => none }
def FnExactStrategyWrongFalsely : Prop := fnExactStrategyRow.holds Try.pinned (OpenSpec.ofChange fnExactStrategyWrong)

/- THE SECOND FORM. 'bulk': how many values and letters a reading holds, each counted each time it is reached (what is shared counts as often as it is met; a slice's spare places count too). A statement '..UptoSaid' is the law's where the arguments, and the package variables that the reading takes, are together of bulk at most 1048576: NARROWER than '..Said'. Prove '..Said' where nothing that the law and all that it calls make is longer than what came in: it says more and counts as full. Else prove '..UptoSaid'. A law counts once. -/
mutual
def uptoBulk {H : Type} : DataW H → Nat
  | .lit (.string bytes) => bytes.length + 1
  | .lit _ => 1
  | .nil => 1
  | .ptr d => uptoBulk d + 1
  | .slice elems spare => uptoBulkAll elems + uptoBulkAll spare + 1
  | .agg parts => uptoBulkAll parts + 1
  | .iface _ d => uptoBulk d + 1
  | .map entries => uptoBulkEntries entries + 1
  | .held _ => 1
def uptoBulkAll {H : Type} : List (DataW H) → Nat
  | [] => 0
  | d :: r => uptoBulk d + uptoBulkAll r
def uptoBulkEntries {H : Type} : List (Lit × DataW H) → Nat
  | [] => 0
  | x :: r => uptoBulkEntry x + uptoBulkEntries r
def uptoBulkEntry {H : Type} : Lit × DataW H → Nat
  | (.string bytes, d) => bytes.length + uptoBulk d + 1
  | (_, d) => uptoBulk d + 1
 end
def uptoSmall : (H : Type) → List (DataW H) → Bool := fun _ ds => decide (uptoBulkAll ds ≤ 1048576)
def OpenSpec.upto (s : _root_.Go.ChangeSpec) : _root_.Go.OpenSpec := { _root_.Go.OpenSpec.ofChange s with cond := some uptoSmall }

/-- 'laws.FnExactRobustAssignment', WHERE WHAT IT READS IS OF BULK AT MOST 1048576: true; the input reads as it did. -/
def fnExactRobustAssignmentUptoRow : OpenClaim := { program := "ytbbphbihgikmdaa", sum := "a54050f2cff37029d1f53f4df24979b1c41aa51c820e780803b0f7651ab96db0", func := "loop.example/constraintsolver/laws.FnExactRobustAssignment", spec := "fnExactRobustAssignment", unfollowed := true, recurses := true, apart := false, narrowed := true }
def FnExactRobustAssignmentUptoSaid : Prop := fnExactRobustAssignmentUptoRow.holds Try.pinned (OpenSpec.upto fnExactRobustAssignmentSpec)

/-- 'laws.FnExactCheckStrategy', WHERE WHAT IT READS IS OF BULK AT MOST 1048576: true; the input reads as it did. -/
def fnExactCheckStrategyUptoRow : OpenClaim := { program := "ytbbphbihgikmdaa", sum := "a54050f2cff37029d1f53f4df24979b1c41aa51c820e780803b0f7651ab96db0", func := "loop.example/constraintsolver/laws.FnExactCheckStrategy", spec := "fnExactCheckStrategy", unfollowed := true, recurses := true, apart := false, narrowed := true }
def FnExactCheckStrategyUptoSaid : Prop := fnExactCheckStrategyUptoRow.holds Try.pinned (OpenSpec.upto fnExactCheckStrategySpec)

/-- 'laws.FnExactMarginals', WHERE WHAT IT READS IS OF BULK AT MOST 1048576: true; the input reads as it did. -/
def fnExactMarginalsUptoRow : OpenClaim := { program := "ytbbphbihgikmdaa", sum := "a54050f2cff37029d1f53f4df24979b1c41aa51c820e780803b0f7651ab96db0", func := "loop.example/constraintsolver/laws.FnExactMarginals", spec := "fnExactMarginals", unfollowed := true, recurses := true, apart := false, narrowed := true }
def FnExactMarginalsUptoSaid : Prop := fnExactMarginalsUptoRow.holds Try.pinned (OpenSpec.upto fnExactMarginalsSpec)

/-- 'laws.FnExactEliminationWidth', WHERE WHAT IT READS IS OF BULK AT MOST 1048576: true; the input reads as it did. -/
def fnExactEliminationWidthUptoRow : OpenClaim := { program := "ytbbphbihgikmdaa", sum := "a54050f2cff37029d1f53f4df24979b1c41aa51c820e780803b0f7651ab96db0", func := "loop.example/constraintsolver/laws.FnExactEliminationWidth", spec := "fnExactEliminationWidth", unfollowed := true, recurses := true, apart := false, narrowed := true }
def FnExactEliminationWidthUptoSaid : Prop := fnExactEliminationWidthUptoRow.holds Try.pinned (OpenSpec.upto fnExactEliminationWidthSpec)

/-- 'laws.FnExactNeighbourhood', WHERE WHAT IT READS IS OF BULK AT MOST 1048576: true; the input reads as it did. -/
def fnExactNeighbourhoodUptoRow : OpenClaim := { program := "ytbbphbihgikmdaa", sum := "a54050f2cff37029d1f53f4df24979b1c41aa51c820e780803b0f7651ab96db0", func := "loop.example/constraintsolver/laws.FnExactNeighbourhood", spec := "fnExactNeighbourhood", unfollowed := true, recurses := true, apart := false, narrowed := true }
def FnExactNeighbourhoodUptoSaid : Prop := fnExactNeighbourhoodUptoRow.holds Try.pinned (OpenSpec.upto fnExactNeighbourhoodSpec)

/-- 'laws.FnExactSubModel', WHERE WHAT IT READS IS OF BULK AT MOST 1048576: true; the input reads as it did. -/
def fnExactSubModelUptoRow : OpenClaim := { program := "ytbbphbihgikmdaa", sum := "a54050f2cff37029d1f53f4df24979b1c41aa51c820e780803b0f7651ab96db0", func := "loop.example/constraintsolver/laws.FnExactSubModel", spec := "fnExactSubModel", unfollowed := true, recurses := true, apart := false, narrowed := true }
def FnExactSubModelUptoSaid : Prop := fnExactSubModelUptoRow.holds Try.pinned (OpenSpec.upto fnExactSubModelSpec)

/-- 'laws.FnExactStrategy', WHERE WHAT IT READS IS OF BULK AT MOST 1048576: true; the input reads as it did. -/
def fnExactStrategyUptoRow : OpenClaim := { program := "ytbbphbihgikmdaa", sum := "a54050f2cff37029d1f53f4df24979b1c41aa51c820e780803b0f7651ab96db0", func := "loop.example/constraintsolver/laws.FnExactStrategy", spec := "fnExactStrategy", unfollowed := true, recurses := true, apart := false, narrowed := true }
def FnExactStrategyUptoSaid : Prop := fnExactStrategyUptoRow.holds Try.pinned (OpenSpec.upto fnExactStrategySpec)

end Rows
end Go.Proofs.Ytbbphbihgikmdaa
