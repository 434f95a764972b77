/-
  No cell of these rows narrows 'for every input' (looked for: loops, veiled, ifaces, maps, wideKeys, modest, calm, conditions, laid).
  DERIVED. THE GIVEN ROWS OF THIS SEAT. 8 by the template 'for every input the law returns true; each argument reads behind the call as it read before'; 0 by the template 'total and deterministic' (their statements: YtcdemjjgmnbkfaaTotals.lean).
  GIVEN WITH THE SEED: the statements are not yours to turn. If you find one false, say at which input.
  Laid BY PROGRAM, IN A SANDBOX (cutbox-rows.mjs): the forced cells as the released guide's own fill.sh prints them over the translation c6b0596aa541a47b… (all of the seat's roots in one cut). By AI agents, Wed Nov 11 2026. No macro, syntax, notation, axiom, sorry.
-/
import Derived.Test.YtcdemjjgmnbkfaaChecked
import GoSem.Claim
import GoSem.ClaimJoined
import GoSem.ClaimMapViews
import Derived.JoinedTies
import Derived.KernelRfl
namespace Go.Proofs.Ytcdemjjgmnbkfaa
/- THE CELL 'sum', in the pinned program and in every row, IS THE sha256 OF THE DUMP (.gsa) THAT YtcdemjjgmnbkfaaProg.lean LOADS. Nothing in Lean hashes anything: it is a label: what it is worth is what the hold of that sum in a sandbox is worth. -/
noncomputable def Try.pinned : Pinned := { name := "ytcdemjjgmnbkfaa", sum := "c6b0596aa541a47b5ec6801f4aa9cdcd3f8dca49671a602a5537cbf04c4de013", checked := Try.checked }
namespace Rows
def none {H : Type} : Left H := { results := [], args := [] }

/-- 'laws.FnExactRankOf': WHATEVER THE INPUT: true; the input reads as it did. -/
def fnExactRankOfSpec : ChangeSpec := { name := "fnExactRankOf", fn := fun _ => fun
  | [d1, d2] => { results := [.lit (.bool true)], args := [d1, d2] }
  | _ => none }
def fnExactRankOfRow : OpenClaim := { program := "ytcdemjjgmnbkfaa", sum := "c6b0596aa541a47b5ec6801f4aa9cdcd3f8dca49671a602a5537cbf04c4de013", func := "loop.example/constraintsolver/laws.FnExactRankOf", spec := "fnExactRankOf", unfollowed := true, recurses := true, apart := false }
def FnExactRankOfSaid : Prop := fnExactRankOfRow.holds Try.pinned (OpenSpec.ofChange fnExactRankOfSpec)

/-- ITS FALSE NEIGHBOUR: 'it returns false'. Refute it at one input. -/
def fnExactRankOfWrong : ChangeSpec := { name := "fnExactRankOf", fn := fun _ => fun
  | [d1, d2] => { results := [.lit (.bool false)], args := [d1, d2] }
  | _ => none }
def FnExactRankOfWrongFalsely : Prop := fnExactRankOfRow.holds Try.pinned (OpenSpec.ofChange fnExactRankOfWrong)

/-- 'laws.FnExactSolutionAt': WHATEVER THE INPUT: true; the input reads as it did. -/
def fnExactSolutionAtSpec : ChangeSpec := { name := "fnExactSolutionAt", fn := fun _ => fun
  | [d1, d2] => { results := [.lit (.bool true)], args := [d1, d2] }
  | _ => none }
def fnExactSolutionAtRow : OpenClaim := { program := "ytcdemjjgmnbkfaa", sum := "c6b0596aa541a47b5ec6801f4aa9cdcd3f8dca49671a602a5537cbf04c4de013", func := "loop.example/constraintsolver/laws.FnExactSolutionAt", spec := "fnExactSolutionAt", unfollowed := true, recurses := true, apart := false }
def FnExactSolutionAtSaid : Prop := fnExactSolutionAtRow.holds Try.pinned (OpenSpec.ofChange fnExactSolutionAtSpec)

/-- ITS FALSE NEIGHBOUR: 'it returns false'. Refute it at one input. -/
def fnExactSolutionAtWrong : ChangeSpec := { name := "fnExactSolutionAt", fn := fun _ => fun
  | [d1, d2] => { results := [.lit (.bool false)], args := [d1, d2] }
  | _ => none }
def FnExactSolutionAtWrongFalsely : Prop := fnExactSolutionAtRow.holds Try.pinned (OpenSpec.ofChange fnExactSolutionAtWrong)

/-- 'laws.FnExactFarthestFrom': WHATEVER THE INPUT: true; the input reads as it did. -/
def fnExactFarthestFromSpec : ChangeSpec := { name := "fnExactFarthestFrom", fn := fun _ => fun
  | [d1, d2] => { results := [.lit (.bool true)], args := [d1, d2] }
  | _ => none }
def fnExactFarthestFromRow : OpenClaim := { program := "ytcdemjjgmnbkfaa", sum := "c6b0596aa541a47b5ec6801f4aa9cdcd3f8dca49671a602a5537cbf04c4de013", func := "loop.example/constraintsolver/laws.FnExactFarthestFrom", spec := "fnExactFarthestFrom", unfollowed := true, recurses := true, apart := false }
def FnExactFarthestFromSaid : Prop := fnExactFarthestFromRow.holds Try.pinned (OpenSpec.ofChange fnExactFarthestFromSpec)

/-- ITS FALSE NEIGHBOUR: 'it returns false'. Refute it at one input. -/
def fnExactFarthestFromWrong : ChangeSpec := { name := "fnExactFarthestFrom", fn := fun _ => fun
  | [d1, d2] => { results := [.lit (.bool false)], args := [d1, d2] }
  | _ => none }
def FnExactFarthestFromWrongFalsely : Prop := fnExactFarthestFromRow.holds Try.pinned (OpenSpec.ofChange fnExactFarthestFromWrong)

/-- 'laws.FnExactMedianSolution': WHATEVER THE INPUT: true; the input reads as it did. -/
def fnExactMedianSolutionSpec : ChangeSpec := { name := "fnExactMedianSolution", fn := fun _ => fun
  | [d] => { results := [.lit (.bool true)], args := [d] }
  | _ => none }
def fnExactMedianSolutionRow : OpenClaim := { program := "ytcdemjjgmnbkfaa", sum := "c6b0596aa541a47b5ec6801f4aa9cdcd3f8dca49671a602a5537cbf04c4de013", func := "loop.example/constraintsolver/laws.FnExactMedianSolution", spec := "fnExactMedianSolution", unfollowed := true, recurses := true, apart := false }
def FnExactMedianSolutionSaid : Prop := fnExactMedianSolutionRow.holds Try.pinned (OpenSpec.ofChange fnExactMedianSolutionSpec)

/-- ITS FALSE NEIGHBOUR: 'it returns false'. Refute it at one input. -/
def fnExactMedianSolutionWrong : ChangeSpec := { name := "fnExactMedianSolution", fn := fun _ => fun
  | [d] => { results := [.lit (.bool false)], args := [d] }
  | _ => none }
def FnExactMedianSolutionWrongFalsely : Prop := fnExactMedianSolutionRow.holds Try.pinned (OpenSpec.ofChange fnExactMedianSolutionWrong)

/-- 'laws.FnRank': WHATEVER THE INPUT: true; the input reads as it did. -/
def fnRankSpec : ChangeSpec := { name := "fnRank", fn := fun _ => fun
  | [d] => { results := [.lit (.bool true)], args := [d] }
  | _ => none }
def fnRankRow : OpenClaim := { program := "ytcdemjjgmnbkfaa", sum := "c6b0596aa541a47b5ec6801f4aa9cdcd3f8dca49671a602a5537cbf04c4de013", func := "loop.example/constraintsolver/laws.FnRank", spec := "fnRank", unfollowed := true, recurses := true, apart := false }
def FnRankSaid : Prop := fnRankRow.holds Try.pinned (OpenSpec.ofChange fnRankSpec)

/-- ITS FALSE NEIGHBOUR: 'it returns false'. Refute it at one input. -/
def fnRankWrong : ChangeSpec := { name := "fnRank", fn := fun _ => fun
  | [d] => { results := [.lit (.bool false)], args := [d] }
  | _ => none }
def FnRankWrongFalsely : Prop := fnRankRow.holds Try.pinned (OpenSpec.ofChange fnRankWrong)

/-- 'laws.FnMedian': WHATEVER THE INPUT: true; the input reads as it did. -/
def fnMedianSpec : ChangeSpec := { name := "fnMedian", fn := fun _ => fun
  | [d] => { results := [.lit (.bool true)], args := [d] }
  | _ => none }
def fnMedianRow : OpenClaim := { program := "ytcdemjjgmnbkfaa", sum := "c6b0596aa541a47b5ec6801f4aa9cdcd3f8dca49671a602a5537cbf04c4de013", func := "loop.example/constraintsolver/laws.FnMedian", spec := "fnMedian", unfollowed := true, recurses := true, apart := false }
def FnMedianSaid : Prop := fnMedianRow.holds Try.pinned (OpenSpec.ofChange fnMedianSpec)

/-- ITS FALSE NEIGHBOUR: 'it returns false'. Refute it at one input. -/
def fnMedianWrong : ChangeSpec := { name := "fnMedian", fn := fun _ => fun
  | [d] => { results := [.lit (.bool false)], args := [d] }
  | _ => none }
def FnMedianWrongFalsely : Prop := fnMedianRow.holds Try.pinned (OpenSpec.ofChange fnMedianWrong)

/-- 'laws.FnQuantifiedPlain': WHATEVER THE INPUT: true; the input reads as it did. -/
def fnQuantifiedPlainSpec : ChangeSpec := { name := "fnQuantifiedPlain", fn := fun _ => fun
  | [d] => { results := [.lit (.bool true)], args := [d] }
  | _ => none }
def fnQuantifiedPlainRow : OpenClaim := { program := "ytcdemjjgmnbkfaa", sum := "c6b0596aa541a47b5ec6801f4aa9cdcd3f8dca49671a602a5537cbf04c4de013", func := "loop.example/constraintsolver/laws.FnQuantifiedPlain", spec := "fnQuantifiedPlain", unfollowed := true, recurses := true, apart := false }
def FnQuantifiedPlainSaid : Prop := fnQuantifiedPlainRow.holds Try.pinned (OpenSpec.ofChange fnQuantifiedPlainSpec)

/-- ITS FALSE NEIGHBOUR: 'it returns false'. Refute it at one input. -/
def fnQuantifiedPlainWrong : ChangeSpec := { name := "fnQuantifiedPlain", fn := fun _ => fun
  | [d] => { results := [.lit (.bool false)], args := [d] }
  | _ => none }
def FnQuantifiedPlainWrongFalsely : Prop := fnQuantifiedPlainRow.holds Try.pinned (OpenSpec.ofChange fnQuantifiedPlainWrong)

/-- 'laws.FnExactRobustAssignment': WHATEVER THE INPUT: true; the input reads as it did. -/
def fnExactRobustAssignmentSpec : ChangeSpec := { name := "fnExactRobustAssignment", fn := fun _ => fun
  | [d1, d2] => { results := [.lit (.bool true)], args := [d1, d2] }
  | _ => none }
def fnExactRobustAssignmentRow : OpenClaim := { program := "ytcdemjjgmnbkfaa", sum := "c6b0596aa541a47b5ec6801f4aa9cdcd3f8dca49671a602a5537cbf04c4de013", func := "loop.example/constraintsolver/laws.FnExactRobustAssignment", spec := "fnExactRobustAssignment", unfollowed := true, recurses := true, apart := false }
def FnExactRobustAssignmentSaid : Prop := fnExactRobustAssignmentRow.holds Try.pinned (OpenSpec.ofChange fnExactRobustAssignmentSpec)

/-- ITS FALSE NEIGHBOUR: 'it returns false'. Refute it at one input. -/
def fnExactRobustAssignmentWrong : ChangeSpec := { name := "fnExactRobustAssignment", fn := fun _ => fun
  | [d1, d2] => { results := [.lit (.bool false)], args := [d1, d2] }
  | _ => none }
def FnExactRobustAssignmentWrongFalsely : Prop := fnExactRobustAssignmentRow.holds Try.pinned (OpenSpec.ofChange fnExactRobustAssignmentWrong)

/- THE SECOND FORM. 'bulk': how many values and letters a reading holds, each counted each time it is reached (what is shared counts as often as it is met; a slice's spare places count too). A statement '..UptoSaid' is the law's where the arguments, and the package variables that the reading takes, are together of bulk at most 1048576: NARROWER than '..Said'. Prove '..Said' where nothing that the law and all that it calls make is longer than what came in: it says more and counts as full. Else prove '..UptoSaid'. A law counts once. -/
mutual
def uptoBulk {H : Type} : DataW H → Nat
  | .lit (.string bytes) => bytes.length + 1
  | .lit _ => 1
  | .nil => 1
  | .ptr d => uptoBulk d + 1
  | .slice elems spare => uptoBulkAll elems + uptoBulkAll spare + 1
  | .agg parts => uptoBulkAll parts + 1
  | .iface _ d => uptoBulk d + 1
  | .map entries => uptoBulkEntries entries + 1
  | .held _ => 1
def uptoBulkAll {H : Type} : List (DataW H) → Nat
  | [] => 0
  | d :: r => uptoBulk d + uptoBulkAll r
def uptoBulkEntries {H : Type} : List (Lit × DataW H) → Nat
  | [] => 0
  | x :: r => uptoBulkEntry x + uptoBulkEntries r
def uptoBulkEntry {H : Type} : Lit × DataW H → Nat
  | (.string bytes, d) => bytes.length + uptoBulk d + 1
  | (_, d) => uptoBulk d + 1
 end
def uptoSmall : (H : Type) → List (DataW H) → Bool := fun _ ds => decide (uptoBulkAll ds ≤ 1048576)
def OpenSpec.upto (s : _root_.Go.ChangeSpec) : _root_.Go.OpenSpec := { _root_.Go.OpenSpec.ofChange s with cond := some uptoSmall }

/-- 'laws.FnExactRankOf', WHERE WHAT IT READS IS OF BULK AT MOST 1048576: true; the input reads as it did. -/
def fnExactRankOfUptoRow : OpenClaim := { program := "ytcdemjjgmnbkfaa", sum := "c6b0596aa541a47b5ec6801f4aa9cdcd3f8dca49671a602a5537cbf04c4de013", func := "loop.example/constraintsolver/laws.FnExactRankOf", spec := "fnExactRankOf", unfollowed := true, recurses := true, apart := false, narrowed := true }
def FnExactRankOfUptoSaid : Prop := fnExactRankOfUptoRow.holds Try.pinned (OpenSpec.upto fnExactRankOfSpec)

/-- 'laws.FnExactSolutionAt', WHERE WHAT IT READS IS OF BULK AT MOST 1048576: true; the input reads as it did. -/
def fnExactSolutionAtUptoRow : OpenClaim := { program := "ytcdemjjgmnbkfaa", sum := "c6b0596aa541a47b5ec6801f4aa9cdcd3f8dca49671a602a5537cbf04c4de013", func := "loop.example/constraintsolver/laws.FnExactSolutionAt", spec := "fnExactSolutionAt", unfollowed := true, recurses := true, apart := false, narrowed := true }
def FnExactSolutionAtUptoSaid : Prop := fnExactSolutionAtUptoRow.holds Try.pinned (OpenSpec.upto fnExactSolutionAtSpec)

/-- 'laws.FnExactFarthestFrom', WHERE WHAT IT READS IS OF BULK AT MOST 1048576: true; the input reads as it did. -/
def fnExactFarthestFromUptoRow : OpenClaim := { program := "ytcdemjjgmnbkfaa", sum := "c6b0596aa541a47b5ec6801f4aa9cdcd3f8dca49671a602a5537cbf04c4de013", func := "loop.example/constraintsolver/laws.FnExactFarthestFrom", spec := "fnExactFarthestFrom", unfollowed := true, recurses := true, apart := false, narrowed := true }
def FnExactFarthestFromUptoSaid : Prop := fnExactFarthestFromUptoRow.holds Try.pinned (OpenSpec.upto fnExactFarthestFromSpec)

/-- 'laws.FnExactMedianSolution', WHERE WHAT IT READS IS OF BULK AT MOST 1048576: true; the input reads as it did. -/
def fnExactMedianSolutionUptoRow : OpenClaim := { program := "ytcdemjjgmnbkfaa", sum := "c6b0596aa541a47b5ec6801f4aa9cdcd3f8dca49671a602a5537cbf04c4de013", func := "loop.example/constraintsolver/laws.FnExactMedianSolution", spec := "fnExactMedianSolution", unfollowed := true, recurses := true, apart := false, narrowed := true }
def FnExactMedianSolutionUptoSaid : Prop := fnExactMedianSolutionUptoRow.holds Try.pinned (OpenSpec.upto fnExactMedianSolutionSpec)

/-- 'laws.FnRank', WHERE WHAT IT READS IS OF BULK AT MOST 1048576: true; the input reads as it did. -/
def fnRankUptoRow : OpenClaim := { program := "ytcdemjjgmnbkfaa", sum := "c6b0596aa541a47b5ec6801f4aa9cdcd3f8dca49671a602a5537cbf04c4de013", func := "loop.example/constraintsolver/laws.FnRank", spec := "fnRank", unfollowed := true, recurses := true, apart := false, narrowed := true }
def FnRankUptoSaid : Prop := fnRankUptoRow.holds Try.pinned (OpenSpec.upto fnRankSpec)

/-- 'laws.FnMedian', WHERE WHAT IT READS IS OF BULK AT MOST 1048576: true; the input reads as it did. -/
def fnMedianUptoRow : OpenClaim := { program := "ytcdemjjgmnbkfaa", sum := "c6b0596aa541a47b5ec6801f4aa9cdcd3f8dca49671a602a5537cbf04c4de013", func := "loop.example/constraintsolver/laws.FnMedian", spec := "fnMedian", unfollowed := true, recurses := true, apart := false, narrowed := true }
def FnMedianUptoSaid : Prop := fnMedianUptoRow.holds Try.pinned (OpenSpec.upto fnMedianSpec)

/-- 'laws.FnQuantifiedPlain', WHERE WHAT IT READS IS OF BULK AT MOST 1048576: true; the input reads as it did. -/
def fnQuantifiedPlainUptoRow : OpenClaim := { program := "ytcdemjjgmnbkfaa", sum := "c6b0596aa541a47b5ec6801f4aa9cdcd3f8dca49671a602a5537cbf04c4de013", func := "loop.example/constraintsolver/laws.FnQuantifiedPlain", spec := "fnQuantifiedPlain", unfollowed := true, recurses := true, apart := false, narrowed := true }
def FnQuantifiedPlainUptoSaid : Prop := fnQuantifiedPlainUptoRow.holds Try.pinned (OpenSpec.upto fnQuantifiedPlainSpec)

/-- 'laws.FnExactRobustAssignment', WHERE WHAT IT READS IS OF BULK AT MOST 1048576: true; the input reads as it did. -/
def fnExactRobustAssignmentUptoRow : OpenClaim := { program := "ytcdemjjgmnbkfaa", sum := "c6b0596aa541a47b5ec6801f4aa9cdcd3f8dca49671a602a5537cbf04c4de013", func := "loop.example/constraintsolver/laws.FnExactRobustAssignment", spec := "fnExactRobustAssignment", unfollowed := true, recurses := true, apart := false, narrowed := true }
def FnExactRobustAssignmentUptoSaid : Prop := fnExactRobustAssignmentUptoRow.holds Try.pinned (OpenSpec.upto fnExactRobustAssignmentSpec)

end Rows
end Go.Proofs.Ytcdemjjgmnbkfaa
