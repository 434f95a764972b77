/-
  No cell of these rows narrows 'for every input' (looked for: loops, veiled, ifaces, maps, wideKeys, modest, calm, conditions, laid).
  DERIVED. THE GIVEN ROWS OF THIS SEAT. 8 by the template 'for every input the law returns true; each argument reads behind the call as it read before'; 0 by the template 'total and deterministic' (their statements: YtigngogjgohfgaaTotals.lean).
  GIVEN WITH THE SEED: the statements are not yours to turn. If you find one false, say at which input.
  Laid BY PROGRAM, IN A SANDBOX (cutbox-rows.mjs): the forced cells as the released guide's own fill.sh prints them over the translation d467c2a9cfe01a98… (all of the seat's roots in one cut). By AI agents, Wed Nov 11 2026. No macro, syntax, notation, axiom, sorry.
-/
import Derived.Test.YtigngogjgohfgaaChecked
import GoSem.Claim
import GoSem.ClaimJoined
import GoSem.ClaimMapViews
import Derived.JoinedTies
import Derived.KernelRfl
namespace Go.Proofs.Ytigngogjgohfgaa
/- THE CELL 'sum', in the pinned program and in every row, IS THE sha256 OF THE DUMP (.gsa) THAT YtigngogjgohfgaaProg.lean LOADS. Nothing in Lean hashes anything: it is a label: what it is worth is what the hold of that sum in a sandbox is worth. -/
noncomputable def Try.pinned : Pinned := { name := "ytigngogjgohfgaa", sum := "d467c2a9cfe01a98e6cf7aecae576d9c821666fafbef995aacde0d139423dcf4", checked := Try.checked }
namespace Rows
def none {H : Type} : Left H := { results := [], args := [] }

/-- 'laws.FnRank': WHATEVER THE INPUT: true; the input reads as it did. -/
def fnRankSpec : ChangeSpec := { name := "fnRank", fn := fun _ => fun
  | [d] => { results := [.lit (.bool true)], args := [d] }
  | _ => none }
def fnRankRow : OpenClaim := { program := "ytigngogjgohfgaa", sum := "d467c2a9cfe01a98e6cf7aecae576d9c821666fafbef995aacde0d139423dcf4", func := "loop.example/constraintsolver/laws.FnRank", spec := "fnRank", unfollowed := true, recurses := true, apart := false }
def FnRankSaid : Prop := fnRankRow.holds Try.pinned (OpenSpec.ofChange fnRankSpec)

/-- ITS FALSE NEIGHBOUR: 'it returns false'. Refute it at one input. -/
def fnRankWrong : ChangeSpec := { name := "fnRank", fn := fun _ => fun
  | [d] => { results := [.lit (.bool false)], args := [d] }
  | _ => none }
def FnRankWrongFalsely : Prop := fnRankRow.holds Try.pinned (OpenSpec.ofChange fnRankWrong)

/-- 'laws.FnQuantifiedPlain': WHATEVER THE INPUT: true; the input reads as it did. -/
def fnQuantifiedPlainSpec : ChangeSpec := { name := "fnQuantifiedPlain", fn := fun _ => fun
  | [d] => { results := [.lit (.bool true)], args := [d] }
  | _ => none }
def fnQuantifiedPlainRow : OpenClaim := { program := "ytigngogjgohfgaa", sum := "d467c2a9cfe01a98e6cf7aecae576d9c821666fafbef995aacde0d139423dcf4", func := "loop.example/constraintsolver/laws.FnQuantifiedPlain", spec := "fnQuantifiedPlain", unfollowed := true, recurses := true, apart := false }
def FnQuantifiedPlainSaid : Prop := fnQuantifiedPlainRow.holds Try.pinned (OpenSpec.ofChange fnQuantifiedPlainSpec)

/-- ITS FALSE NEIGHBOUR: 'it returns false'. Refute it at one input. -/
def fnQuantifiedPlainWrong : ChangeSpec := { name := "fnQuantifiedPlain", fn := fun _ => fun
  | [d] => { results := [.lit (.bool false)], args := [d] }
  | _ => none }
def FnQuantifiedPlainWrongFalsely : Prop := fnQuantifiedPlainRow.holds Try.pinned (OpenSpec.ofChange fnQuantifiedPlainWrong)

/-- 'laws.FnExactFarthestFrom': WHATEVER THE INPUT: true; the input reads as it did. -/
def fnExactFarthestFromSpec : ChangeSpec := { name := "fnExactFarthestFrom", fn := fun _ => fun
  | [d1, d2] => { results := [.lit (.bool true)], args := [d1, d2] }
  | _ => none }
def fnExactFarthestFromRow : OpenClaim := { program := "ytigngogjgohfgaa", sum := "d467c2a9cfe01a98e6cf7aecae576d9c821666fafbef995aacde0d139423dcf4", func := "loop.example/constraintsolver/laws.FnExactFarthestFrom", spec := "fnExactFarthestFrom", unfollowed := true, recurses := true, apart := false }
def FnExactFarthestFromSaid : Prop := fnExactFarthestFromRow.holds Try.pinned (OpenSpec.ofChange fnExactFarthestFromSpec)

/-- ITS FALSE NEIGHBOUR: 'it returns false'. Refute it at one input. -/
def fnExactFarthestFromWrong : ChangeSpec := { name := "fnExactFarthestFrom", fn := fun _ => fun
  | [d1, d2] => { results := [.lit (.bool false)], args := [d1, d2] }
  | _ => none }
def FnExactFarthestFromWrongFalsely : Prop := fnExactFarthestFromRow.holds Try.pinned (OpenSpec.ofChange fnExactFarthestFromWrong)

/-- 'laws.FnMedian': WHATEVER THE INPUT: true; the input reads as it did. -/
def fnMedianSpec : ChangeSpec := { name := "fnMedian", fn := fun _ => fun
  | [d] => { results := [.lit (.bool true)], args := [d] }
  | _ => none }
def fnMedianRow : OpenClaim := { program := "ytigngogjgohfgaa", sum := "d467c2a9cfe01a98e6cf7aecae576d9c821666fafbef995aacde0d139423dcf4", func := "loop.example/constraintsolver/laws.FnMedian", spec := "fnMedian", unfollowed := true, recurses := true, apart := false }
def FnMedianSaid : Prop := fnMedianRow.holds Try.pinned (OpenSpec.ofChange fnMedianSpec)

/-- ITS FALSE NEIGHBOUR: 'it returns false'. Refute it at one input. -/
def fnMedianWrong : ChangeSpec := { name := "fnMedian", fn := fun _ => fun
  | [d] => { results := [.lit (.bool false)], args := [d] }
  | _ => none }
def FnMedianWrongFalsely : Prop := fnMedianRow.holds Try.pinned (OpenSpec.ofChange fnMedianWrong)

/-- 'laws.FnExactMedianSolution': WHATEVER THE INPUT: true; the input reads as it did. -/
def fnExactMedianSolutionSpec : ChangeSpec := { name := "fnExactMedianSolution", fn := fun _ => fun
  | [d] => { results := [.lit (.bool true)], args := [d] }
  | _ => none }
def fnExactMedianSolutionRow : OpenClaim := { program := "ytigngogjgohfgaa", sum := "d467c2a9cfe01a98e6cf7aecae576d9c821666fafbef995aacde0d139423dcf4", func := "loop.example/constraintsolver/laws.FnExactMedianSolution", spec := "fnExactMedianSolution", unfollowed := true, recurses := true, apart := false }
def FnExactMedianSolutionSaid : Prop := fnExactMedianSolutionRow.holds Try.pinned (OpenSpec.ofChange fnExactMedianSolutionSpec)

/-- ITS FALSE NEIGHBOUR: 'it returns false'. Refute it at one input. -/
def fnExactMedianSolutionWrong : ChangeSpec := { name := "fnExactMedianSolution", fn := fun _ => fun
  | [d] => { results := [.lit (.bool false)], args := [d] }
  | _ => none }
def FnExactMedianSolutionWrongFalsely : Prop := fnExactMedianSolutionRow.holds Try.pinned (OpenSpec.ofChange fnExactMedianSolutionWrong)

/-- 'laws.FnExactRobustAssignment': WHATEVER THE INPUT: true; the input reads as it did. -/
def fnExactRobustAssignmentSpec : ChangeSpec := { name := "fnExactRobustAssignment", fn := fun _ => fun
  | [d1, d2] => { results := [.lit (.bool true)], args := [d1, d2] }
  | _ => none }
def fnExactRobustAssignmentRow : OpenClaim := { program := "ytigngogjgohfgaa", sum := "d467c2a9cfe01a98e6cf7aecae576d9c821666fafbef995aacde0d139423dcf4", func := "loop.example/constraintsolver/laws.FnExactRobustAssignment", spec := "fnExactRobustAssignment", unfollowed := true, recurses := true, apart := false }
def FnExactRobustAssignmentSaid : Prop := fnExactRobustAssignmentRow.holds Try.pinned (OpenSpec.ofChange fnExactRobustAssignmentSpec)

/-- ITS FALSE NEIGHBOUR: 'it returns false'. Refute it at one input. -/
def fnExactRobustAssignmentWrong : ChangeSpec := { name := "fnExactRobustAssignment", fn := fun _ => fun
  | [d1, d2] => { results := [.lit (.bool false)], args := [d1, d2] }
  | _ => none }
def FnExactRobustAssignmentWrongFalsely : Prop := fnExactRobustAssignmentRow.holds Try.pinned (OpenSpec.ofChange fnExactRobustAssignmentWrong)

/-- 'laws.FnEntailsPropagation': WHATEVER THE INPUT: true; the input reads as it did. -/
def fnEntailsPropagationSpec : ChangeSpec := { name := "fnEntailsPropagation", fn := fun _ => fun
  | [d] => { results := [.lit (.bool true)], args := [d] }
  | _ => none }
def fnEntailsPropagationRow : OpenClaim := { program := "ytigngogjgohfgaa", sum := "d467c2a9cfe01a98e6cf7aecae576d9c821666fafbef995aacde0d139423dcf4", func := "loop.example/constraintsolver/laws.FnEntailsPropagation", spec := "fnEntailsPropagation", unfollowed := true, recurses := true, apart := false }
def FnEntailsPropagationSaid : Prop := fnEntailsPropagationRow.holds Try.pinned (OpenSpec.ofChange fnEntailsPropagationSpec)

/-- ITS FALSE NEIGHBOUR: 'it returns false'. Refute it at one input. -/
def fnEntailsPropagationWrong : ChangeSpec := { name := "fnEntailsPropagation", fn := fun _ => fun
  | [d] => { results := [.lit (.bool false)], args := [d] }
  | _ => none }
def FnEntailsPropagationWrongFalsely : Prop := fnEntailsPropagationRow.holds Try.pinned (OpenSpec.ofChange fnEntailsPropagationWrong)

/-- 'laws.FnQuantifiedWeaker': WHATEVER THE INPUT: true; the input reads as it did. -/
def fnQuantifiedWeakerSpec : ChangeSpec := { name := "fnQuantifiedWeaker", fn := fun _ => fun
  | [d] => { results := [.lit (.bool true)], args := [d] }
  | _ => none }
def fnQuantifiedWeakerRow : OpenClaim := { program := "ytigngogjgohfgaa", sum := "d467c2a9cfe01a98e6cf7aecae576d9c821666fafbef995aacde0d139423dcf4", func := "loop.example/constraintsolver/laws.FnQuantifiedWeaker", spec := "fnQuantifiedWeaker", unfollowed := true, recurses := true, apart := false }
def FnQuantifiedWeakerSaid : Prop := fnQuantifiedWeakerRow.holds Try.pinned (OpenSpec.ofChange fnQuantifiedWeakerSpec)

/-- ITS FALSE NEIGHBOUR: 'it returns false'. Refute it at one input. -/
def fnQuantifiedWeakerWrong : ChangeSpec := { name := "fnQuantifiedWeaker", fn := fun _ => fun
  | [d] => { results := [.lit (.bool false)], args := [d] }
  | _ => none }
def FnQuantifiedWeakerWrongFalsely : Prop := fnQuantifiedWeakerRow.holds Try.pinned (OpenSpec.ofChange fnQuantifiedWeakerWrong)

/- THE SECOND FORM. 'bulk': how many values and letters a reading holds, each counted each time it is reached (what is shared counts as often as it is met; a slice's spare places count too). A statement '..UptoSaid' is the law's where the arguments, and the package variables that the reading takes, are together of bulk at most 1048576: NARROWER than '..Said'. Prove '..Said' where nothing that the law and all that it calls make is longer than what came in: it says more and counts as full. Else prove '..UptoSaid'. A law counts once. -/
mutual
def uptoBulk {H : Type} : DataW H → Nat
  | .lit (.string bytes) => bytes.length + 1
  | .lit _ => 1
  | .nil => 1
  | .ptr d => uptoBulk d + 1
  | .slice elems spare => uptoBulkAll elems + uptoBulkAll spare + 1
  | .agg parts => uptoBulkAll parts + 1
  | .iface _ d => uptoBulk d + 1
  | .map entries => uptoBulkEntries entries + 1
  | .held _ => 1
def uptoBulkAll {H : Type} : List (DataW H) → Nat
  | [] => 0
  | d :: r => uptoBulk d + uptoBulkAll r
def uptoBulkEntries {H : Type} : List (Lit × DataW H) → Nat
  | [] => 0
  | x :: r => uptoBulkEntry x + uptoBulkEntries r
def uptoBulkEntry {H : Type} : Lit × DataW H → Nat
  | (.string bytes, d) => bytes.length + uptoBulk d + 1
  | (_, d) => uptoBulk d + 1
 end
def uptoSmall : (H : Type) → List (DataW H) → Bool := fun _ ds => decide (uptoBulkAll ds ≤ 1048576)
def OpenSpec.upto (s : _root_.Go.ChangeSpec) : _root_.Go.OpenSpec := { _root_.Go.OpenSpec.ofChange s with cond := some uptoSmall }

/-- 'laws.FnRank', WHERE WHAT IT READS IS OF BULK AT MOST 1048576: true; the input reads as it did. -/
def fnRankUptoRow : OpenClaim := { program := "ytigngogjgohfgaa", sum := "d467c2a9cfe01a98e6cf7aecae576d9c821666fafbef995aacde0d139423dcf4", func := "loop.example/constraintsolver/laws.FnRank", spec := "fnRank", unfollowed := true, recurses := true, apart := false, narrowed := true }
def FnRankUptoSaid : Prop := fnRankUptoRow.holds Try.pinned (OpenSpec.upto fnRankSpec)

/-- 'laws.FnQuantifiedPlain', WHERE WHAT IT READS IS OF BULK AT MOST 1048576: true; the input reads as it did. -/
def fnQuantifiedPlainUptoRow : OpenClaim := { program := "ytigngogjgohfgaa", sum := "d467c2a9cfe01a98e6cf7aecae576d9c821666fafbef995aacde0d139423dcf4", func := "loop.example/constraintsolver/laws.FnQuantifiedPlain", spec := "fnQuantifiedPlain", unfollowed := true, recurses := true, apart := false, narrowed := true }
def FnQuantifiedPlainUptoSaid : Prop := fnQuantifiedPlainUptoRow.holds Try.pinned (OpenSpec.upto fnQuantifiedPlainSpec)

/-- 'laws.FnExactFarthestFrom', WHERE WHAT IT READS IS OF BULK AT MOST 1048576: true; the input reads as it did. -/
def fnExactFarthestFromUptoRow : OpenClaim := { program := "ytigngogjgohfgaa", sum := "d467c2a9cfe01a98e6cf7aecae576d9c821666fafbef995aacde0d139423dcf4", func := "loop.example/constraintsolver/laws.FnExactFarthestFrom", spec := "fnExactFarthestFrom", unfollowed := true, recurses := true, apart := false, narrowed := true }
def FnExactFarthestFromUptoSaid : Prop := fnExactFarthestFromUptoRow.holds Try.pinned (OpenSpec.upto fnExactFarthestFromSpec)

/-- 'laws.FnMedian', WHERE WHAT IT READS IS OF BULK AT MOST 1048576: true; the input reads as it did. -/
def fnMedianUptoRow : OpenClaim := { program := "ytigngogjgohfgaa", sum := "d467c2a9cfe01a98e6cf7aecae576d9c821666fafbef995aacde0d139423dcf4", func := "loop.example/constraintsolver/laws.FnMedian", spec := "fnMedian", unfollowed := true, recurses := true, apart := false, narrowed := true }
def FnMedianUptoSaid : Prop := fnMedianUptoRow.holds Try.pinned (OpenSpec.upto fnMedianSpec)

/-- 'laws.FnExactMedianSolution', WHERE WHAT IT READS IS OF BULK AT MOST 1048576: true; the input reads as it did. -/
def fnExactMedianSolutionUptoRow : OpenClaim := { program := "ytigngogjgohfgaa", sum := "d467c2a9cfe01a98e6cf7aecae576d9c821666fafbef995aacde0d139423dcf4", func := "loop.example/constraintsolver/laws.FnExactMedianSolution", spec := "fnExactMedianSolution", unfollowed := true, recurses := true, apart := false, narrowed := true }
def FnExactMedianSolutionUptoSaid : Prop := fnExactMedianSolutionUptoRow.holds Try.pinned (OpenSpec.upto fnExactMedianSolutionSpec)

/-- 'laws.FnExactRobustAssignment', WHERE WHAT IT READS IS OF BULK AT MOST 1048576: true; the input reads as it did. -/
def fnExactRobustAssignmentUptoRow : OpenClaim := { program := "ytigngogjgohfgaa", sum := "d467c2a9cfe01a98e6cf7aecae576d9c821666fafbef995aacde0d139423dcf4", func := "loop.example/constraintsolver/laws.FnExactRobustAssignment", spec := "fnExactRobustAssignment", unfollowed := true, recurses := true, apart := false, narrowed := true }
def FnExactRobustAssignmentUptoSaid : Prop := fnExactRobustAssignmentUptoRow.holds Try.pinned (OpenSpec.upto fnExactRobustAssignmentSpec)

/-- 'laws.FnEntailsPropagation', WHERE WHAT IT READS IS OF BULK AT MOST 1048576: true; the input reads as it did. -/
def fnEntailsPropagationUptoRow : OpenClaim := { program := "ytigngogjgohfgaa", sum := "d467c2a9cfe01a98e6cf7aecae576d9c821666fafbef995aacde0d139423dcf4", func := "loop.example/constraintsolver/laws.FnEntailsPropagation", spec := "fnEntailsPropagation", unfollowed := true, recurses := true, apart := false, narrowed := true }
def FnEntailsPropagationUptoSaid : Prop := fnEntailsPropagationUptoRow.holds Try.pinned (OpenSpec.upto fnEntailsPropagationSpec)

/-- 'laws.FnQuantifiedWeaker', WHERE WHAT IT READS IS OF BULK AT MOST 1048576: true; the input reads as it did. -/
def fnQuantifiedWeakerUptoRow : OpenClaim := { program := "ytigngogjgohfgaa", sum := "d467c2a9cfe01a98e6cf7aecae576d9c821666fafbef995aacde0d139423dcf4", func := "loop.example/constraintsolver/laws.FnQuantifiedWeaker", spec := "fnQuantifiedWeaker", unfollowed := true, recurses := true, apart := false, narrowed := true }
def FnQuantifiedWeakerUptoSaid : Prop := fnQuantifiedWeakerUptoRow.holds Try.pinned (OpenSpec.upto fnQuantifiedWeakerSpec)

end Rows
end Go.Proofs.Ytigngogjgohfgaa
