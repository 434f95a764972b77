/-
  No cell of these rows narrows 'for every input' (looked for: loops, veiled, ifaces, maps, wideKeys, modest, calm, conditions, laid).
  DERIVED. THE GIVEN ROWS OF THIS SEAT. 5 by the template 'for every input the law returns true; each argument reads behind the call as it read before'; 0 by the template 'total and deterministic' (their statements: YtbbphbihgikmdaaGreatTotals.lean).
  GIVEN WITH THE SEED: the statements are not yours to turn. If you find one false, say at which input.
  Laid BY PROGRAM, IN A SANDBOX (cutbox-rows.mjs): the forced cells as the released guide's own fill.sh prints them over the translation 8dfdcac372d03bb1… (all of the seat's roots in one cut). By AI agents, Wed Nov 11 2026. No macro, syntax, notation, axiom, sorry.
-/
import Derived.Test.YtbbphbihgikmdaaGreatChecked
import GoSem.Claim
import GoSem.ClaimJoined
import GoSem.ClaimMapViews
import Derived.JoinedTies
import Derived.KernelRfl
namespace Go.Proofs.YtbbphbihgikmdaaGreat
/- THE CELL 'sum', in the pinned program and in every row, IS THE sha256 OF THE DUMP (.gsa) THAT YtbbphbihgikmdaaGreatProg.lean LOADS. Nothing in Lean hashes anything: it is a label: what it is worth is what the hold of that sum in a sandbox is worth. -/
noncomputable def Tryz.pinned : Pinned := { name := "ytbbphbihgikmdaagreat", sum := "8dfdcac372d03bb16c07947c55ca56b7c3fb1c4499c4b4b0f0d813f04109d3af", checked := Tryz.checked }
namespace Rows
def none {H : Type} : Left H := { results := [], args := [] }

/-- 'laws.FnExactCountWith': WHATEVER THE INPUT: true; the input reads as it did. -/
def fnExactCountWithSpec : ChangeSpec := { name := "fnExactCountWith", fn := fun _ => fun
  | [d1, d2] => { results := [.lit (.bool true)], args := [d1, d2] }
  | _ => none }
def fnExactCountWithRow : OpenClaim := { program := "ytbbphbihgikmdaagreat", sum := "8dfdcac372d03bb16c07947c55ca56b7c3fb1c4499c4b4b0f0d813f04109d3af", func := "loop.example/constraintsolver/laws.FnExactCountWith", spec := "fnExactCountWith", unfollowed := true, recurses := true, apart := false }
def FnExactCountWithSaid : Prop := fnExactCountWithRow.holds Tryz.pinned (OpenSpec.ofChange fnExactCountWithSpec)

/-- ITS FALSE NEIGHBOUR: 'it returns false'. Refute it at one input. -/
def fnExactCountWithWrong : ChangeSpec := { name := "fnExactCountWith", fn := fun _ => fun
  | [d1, d2] => { results := [.lit (.bool false)], args := [d1, d2] }
  | _ => none }
def FnExactCountWithWrongFalsely : Prop := fnExactCountWithRow.holds Tryz.pinned (OpenSpec.ofChange fnExactCountWithWrong)

/-- 'laws.FnCountWith': WHATEVER THE INPUT: true; the input reads as it did. -/
def fnCountWithSpec : ChangeSpec := { name := "fnCountWith", fn := fun _ => fun
  | [d] => { results := [.lit (.bool true)], args := [d] }
  | _ => none }
def fnCountWithRow : OpenClaim := { program := "ytbbphbihgikmdaagreat", sum := "8dfdcac372d03bb16c07947c55ca56b7c3fb1c4499c4b4b0f0d813f04109d3af", func := "loop.example/constraintsolver/laws.FnCountWith", spec := "fnCountWith", unfollowed := true, recurses := true, apart := false }
def FnCountWithSaid : Prop := fnCountWithRow.holds Tryz.pinned (OpenSpec.ofChange fnCountWithSpec)

/-- ITS FALSE NEIGHBOUR: 'it returns false'. Refute it at one input. -/
def fnCountWithWrong : ChangeSpec := { name := "fnCountWith", fn := fun _ => fun
  | [d] => { results := [.lit (.bool false)], args := [d] }
  | _ => none }
def FnCountWithWrongFalsely : Prop := fnCountWithRow.holds Tryz.pinned (OpenSpec.ofChange fnCountWithWrong)

/-- 'laws.FnRobustAll': WHATEVER THE INPUT: true; the input reads as it did. -/
def fnRobustAllSpec : ChangeSpec := { name := "fnRobustAll", fn := fun _ => fun
  | [d] => { results := [.lit (.bool true)], args := [d] }
  | _ => none }
def fnRobustAllRow : OpenClaim := { program := "ytbbphbihgikmdaagreat", sum := "8dfdcac372d03bb16c07947c55ca56b7c3fb1c4499c4b4b0f0d813f04109d3af", func := "loop.example/constraintsolver/laws.FnRobustAll", spec := "fnRobustAll", unfollowed := true, recurses := true, apart := false }
def FnRobustAllSaid : Prop := fnRobustAllRow.holds Tryz.pinned (OpenSpec.ofChange fnRobustAllSpec)

/-- ITS FALSE NEIGHBOUR: 'it returns false'. Refute it at one input. -/
def fnRobustAllWrong : ChangeSpec := { name := "fnRobustAll", fn := fun _ => fun
  | [d] => { results := [.lit (.bool false)], args := [d] }
  | _ => none }
def FnRobustAllWrongFalsely : Prop := fnRobustAllRow.holds Tryz.pinned (OpenSpec.ofChange fnRobustAllWrong)

/-- 'laws.FnMarginals': WHATEVER THE INPUT: true; the input reads as it did. -/
def fnMarginalsSpec : ChangeSpec := { name := "fnMarginals", fn := fun _ => fun
  | [d] => { results := [.lit (.bool true)], args := [d] }
  | _ => none }
def fnMarginalsRow : OpenClaim := { program := "ytbbphbihgikmdaagreat", sum := "8dfdcac372d03bb16c07947c55ca56b7c3fb1c4499c4b4b0f0d813f04109d3af", func := "loop.example/constraintsolver/laws.FnMarginals", spec := "fnMarginals", unfollowed := true, recurses := true, apart := false }
def FnMarginalsSaid : Prop := fnMarginalsRow.holds Tryz.pinned (OpenSpec.ofChange fnMarginalsSpec)

/-- ITS FALSE NEIGHBOUR: 'it returns false'. Refute it at one input. -/
def fnMarginalsWrong : ChangeSpec := { name := "fnMarginals", fn := fun _ => fun
  | [d] => { results := [.lit (.bool false)], args := [d] }
  | _ => none }
def FnMarginalsWrongFalsely : Prop := fnMarginalsRow.holds Tryz.pinned (OpenSpec.ofChange fnMarginalsWrong)

/-- 'laws.FnProbe': WHATEVER THE INPUT: true; the input reads as it did. -/
def fnProbeSpec : ChangeSpec := { name := "fnProbe", fn := fun _ => fun
  | [d] => { results := [.lit (.bool true)], args := [d] }
  | _ => none }
def fnProbeRow : OpenClaim := { program := "ytbbphbihgikmdaagreat", sum := "8dfdcac372d03bb16c07947c55ca56b7c3fb1c4499c4b4b0f0d813f04109d3af", func := "loop.example/constraintsolver/laws.FnProbe", spec := "fnProbe", unfollowed := true, recurses := true, apart := false }
def FnProbeSaid : Prop := fnProbeRow.holds Tryz.pinned (OpenSpec.ofChange fnProbeSpec)

/-- ITS FALSE NEIGHBOUR: 'it returns false'. Refute it at one input. -/
def fnProbeWrong : ChangeSpec := { name := "fnProbe", fn := fun _ => fun
  | [d] => { results := [.lit (.bool false)], args := [d] }
  | _ => none }
def FnProbeWrongFalsely : Prop := fnProbeRow.holds Tryz.pinned (OpenSpec.ofChange fnProbeWrong)

/- THE SECOND FORM. 'bulk': how many values and letters a reading holds, each counted each time it is reached (what is shared counts as often as it is met; a slice's spare places count too). A statement '..UptoSaid' is the law's where the arguments, and the package variables that the reading takes, are together of bulk at most 1048576: NARROWER than '..Said'. Prove '..Said' where nothing that the law and all that it calls make is longer than what came in: it says more and counts as full. Else prove '..UptoSaid'. A law counts once. -/
mutual
def uptoBulk {H : Type} : DataW H → Nat
  | .lit (.string bytes) => bytes.length + 1
  | .lit _ => 1
  | .nil => 1
  | .ptr d => uptoBulk d + 1
  | .slice elems spare => uptoBulkAll elems + uptoBulkAll spare + 1
  | .agg parts => uptoBulkAll parts + 1
  | .iface _ d => uptoBulk d + 1
  | .map entries => uptoBulkEntries entries + 1
  | .held _ => 1
def uptoBulkAll {H : Type} : List (DataW H) → Nat
  | [] => 0
  | d :: r => uptoBulk d + uptoBulkAll r
def uptoBulkEntries {H : Type} : List (Lit × DataW H) → Nat
  | [] => 0
  | x :: r => uptoBulkEntry x + uptoBulkEntries r
def uptoBulkEntry {H : Type} : Lit × DataW H → Nat
  | (.string bytes, d) => bytes.length + uptoBulk d + 1
  | (_, d) => uptoBulk d + 1
 end
def uptoSmall : (H : Type) → List (DataW H) → Bool := fun _ ds => decide (uptoBulkAll ds ≤ 1048576)
def OpenSpec.upto (s : _root_.Go.ChangeSpec) : _root_.Go.OpenSpec := { _root_.Go.OpenSpec.ofChange s with cond := some uptoSmall }

/-- 'laws.FnExactCountWith', WHERE WHAT IT READS IS OF BULK AT MOST 1048576: true; the input reads as it did. -/
def fnExactCountWithUptoRow : OpenClaim := { program := "ytbbphbihgikmdaagreat", sum := "8dfdcac372d03bb16c07947c55ca56b7c3fb1c4499c4b4b0f0d813f04109d3af", func := "loop.example/constraintsolver/laws.FnExactCountWith", spec := "fnExactCountWith", unfollowed := true, recurses := true, apart := false, narrowed := true }
def FnExactCountWithUptoSaid : Prop := fnExactCountWithUptoRow.holds Tryz.pinned (OpenSpec.upto fnExactCountWithSpec)

/-- 'laws.FnCountWith', WHERE WHAT IT READS IS OF BULK AT MOST 1048576: true; the input reads as it did. -/
def fnCountWithUptoRow : OpenClaim := { program := "ytbbphbihgikmdaagreat", sum := "8dfdcac372d03bb16c07947c55ca56b7c3fb1c4499c4b4b0f0d813f04109d3af", func := "loop.example/constraintsolver/laws.FnCountWith", spec := "fnCountWith", unfollowed := true, recurses := true, apart := false, narrowed := true }
def FnCountWithUptoSaid : Prop := fnCountWithUptoRow.holds Tryz.pinned (OpenSpec.upto fnCountWithSpec)

/-- 'laws.FnRobustAll', WHERE WHAT IT READS IS OF BULK AT MOST 1048576: true; the input reads as it did. -/
def fnRobustAllUptoRow : OpenClaim := { program := "ytbbphbihgikmdaagreat", sum := "8dfdcac372d03bb16c07947c55ca56b7c3fb1c4499c4b4b0f0d813f04109d3af", func := "loop.example/constraintsolver/laws.FnRobustAll", spec := "fnRobustAll", unfollowed := true, recurses := true, apart := false, narrowed := true }
def FnRobustAllUptoSaid : Prop := fnRobustAllUptoRow.holds Tryz.pinned (OpenSpec.upto fnRobustAllSpec)

/-- 'laws.FnMarginals', WHERE WHAT IT READS IS OF BULK AT MOST 1048576: true; the input reads as it did. -/
def fnMarginalsUptoRow : OpenClaim := { program := "ytbbphbihgikmdaagreat", sum := "8dfdcac372d03bb16c07947c55ca56b7c3fb1c4499c4b4b0f0d813f04109d3af", func := "loop.example/constraintsolver/laws.FnMarginals", spec := "fnMarginals", unfollowed := true, recurses := true, apart := false, narrowed := true }
def FnMarginalsUptoSaid : Prop := fnMarginalsUptoRow.holds Tryz.pinned (OpenSpec.upto fnMarginalsSpec)

/-- 'laws.FnProbe', WHERE WHAT IT READS IS OF BULK AT MOST 1048576: true; the input reads as it did. -/
def fnProbeUptoRow : OpenClaim := { program := "ytbbphbihgikmdaagreat", sum := "8dfdcac372d03bb16c07947c55ca56b7c3fb1c4499c4b4b0f0d813f04109d3af", func := "loop.example/constraintsolver/laws.FnProbe", spec := "fnProbe", unfollowed := true, recurses := true, apart := false, narrowed := true }
def FnProbeUptoSaid : Prop := fnProbeUptoRow.holds Tryz.pinned (OpenSpec.upto fnProbeSpec)

end Rows
end Go.Proofs.YtbbphbihgikmdaaGreat
