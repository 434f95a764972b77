/-
  No cell of these rows narrows 'for every input' (looked for: loops, veiled, ifaces, maps, wideKeys, modest, calm, conditions, laid).
  DERIVED. THE GIVEN ROWS OF THIS SEAT. 4 by the template 'for every input the law returns true; each argument reads behind the call as it read before'; 0 by the template 'total and deterministic' (their statements: YtolndgeihijlbaaGreatTotals.lean).
  GIVEN WITH THE SEED: the statements are not yours to turn. If you find one false, say at which input.
  Laid BY PROGRAM, IN A SANDBOX (cutbox-rows.mjs): the forced cells as the released guide's own fill.sh prints them over the translation 58d8dbfda61a7ee1… (all of the seat's roots in one cut). By AI agents, Wed Nov 11 2026. No macro, syntax, notation, axiom, sorry.
-/
import Derived.Test.YtolndgeihijlbaaGreatChecked
import GoSem.Claim
import GoSem.ClaimJoined
import GoSem.ClaimMapViews
import Derived.JoinedTies
import Derived.KernelRfl
namespace Go.Proofs.YtolndgeihijlbaaGreat
/- THE CELL 'sum', in the pinned program and in every row, IS THE sha256 OF THE DUMP (.gsa) THAT YtolndgeihijlbaaGreatProg.lean LOADS. Nothing in Lean hashes anything: it is a label: what it is worth is what the hold of that sum in a sandbox is worth. -/
noncomputable def Tryz.pinned : Pinned := { name := "ytolndgeihijlbaagreat", sum := "58d8dbfda61a7ee144514a8e54cb633f6ed1611ecde92950c244ab747db420f6", checked := Tryz.checked }
namespace Rows
def none {H : Type} : Left H := { results := [], args := [] }

/-- 'laws.FnProveBound': WHATEVER THE INPUT: true; the input reads as it did. -/
def fnProveBoundSpec : ChangeSpec := { name := "fnProveBound", fn := fun _ => fun
  | [d] => { results := [.lit (.bool true)], args := [d] }
  | _ => none }
def fnProveBoundRow : OpenClaim := { program := "ytolndgeihijlbaagreat", sum := "58d8dbfda61a7ee144514a8e54cb633f6ed1611ecde92950c244ab747db420f6", func := "loop.example/constraintsolver/laws.FnProveBound", spec := "fnProveBound", unfollowed := true, recurses := true, apart := false }
def FnProveBoundSaid : Prop := fnProveBoundRow.holds Tryz.pinned (OpenSpec.ofChange fnProveBoundSpec)

/-- ITS FALSE NEIGHBOUR: 'it returns false'. Refute it at one input. -/
def fnProveBoundWrong : ChangeSpec := { name := "fnProveBound", fn := fun _ => fun
  | [d] => { results := [.lit (.bool false)], args := [d] }
  | _ => none }
def FnProveBoundWrongFalsely : Prop := fnProveBoundRow.holds Tryz.pinned (OpenSpec.ofChange fnProveBoundWrong)

/-- 'laws.FnCheckBound': WHATEVER THE INPUT: true; the input reads as it did. -/
def fnCheckBoundSpec : ChangeSpec := { name := "fnCheckBound", fn := fun _ => fun
  | [d] => { results := [.lit (.bool true)], args := [d] }
  | _ => none }
def fnCheckBoundRow : OpenClaim := { program := "ytolndgeihijlbaagreat", sum := "58d8dbfda61a7ee144514a8e54cb633f6ed1611ecde92950c244ab747db420f6", func := "loop.example/constraintsolver/laws.FnCheckBound", spec := "fnCheckBound", unfollowed := true, recurses := true, apart := false }
def FnCheckBoundSaid : Prop := fnCheckBoundRow.holds Tryz.pinned (OpenSpec.ofChange fnCheckBoundSpec)

/-- ITS FALSE NEIGHBOUR: 'it returns false'. Refute it at one input. -/
def fnCheckBoundWrong : ChangeSpec := { name := "fnCheckBound", fn := fun _ => fun
  | [d] => { results := [.lit (.bool false)], args := [d] }
  | _ => none }
def FnCheckBoundWrongFalsely : Prop := fnCheckBoundRow.holds Tryz.pinned (OpenSpec.ofChange fnCheckBoundWrong)

/-- 'laws.FnBoundOptimal': WHATEVER THE INPUT: true; the input reads as it did. -/
def fnBoundOptimalSpec : ChangeSpec := { name := "fnBoundOptimal", fn := fun _ => fun
  | [d] => { results := [.lit (.bool true)], args := [d] }
  | _ => none }
def fnBoundOptimalRow : OpenClaim := { program := "ytolndgeihijlbaagreat", sum := "58d8dbfda61a7ee144514a8e54cb633f6ed1611ecde92950c244ab747db420f6", func := "loop.example/constraintsolver/laws.FnBoundOptimal", spec := "fnBoundOptimal", unfollowed := true, recurses := true, apart := false }
def FnBoundOptimalSaid : Prop := fnBoundOptimalRow.holds Tryz.pinned (OpenSpec.ofChange fnBoundOptimalSpec)

/-- ITS FALSE NEIGHBOUR: 'it returns false'. Refute it at one input. -/
def fnBoundOptimalWrong : ChangeSpec := { name := "fnBoundOptimal", fn := fun _ => fun
  | [d] => { results := [.lit (.bool false)], args := [d] }
  | _ => none }
def FnBoundOptimalWrongFalsely : Prop := fnBoundOptimalRow.holds Tryz.pinned (OpenSpec.ofChange fnBoundOptimalWrong)

/-- 'laws.FnExactProveBound': WHATEVER THE INPUT: true; the input reads as it did. -/
def fnExactProveBoundSpec : ChangeSpec := { name := "fnExactProveBound", fn := fun _ => fun
  | [d1, d2, d3] => { results := [.lit (.bool true)], args := [d1, d2, d3] }
  | _ => none }
def fnExactProveBoundRow : OpenClaim := { program := "ytolndgeihijlbaagreat", sum := "58d8dbfda61a7ee144514a8e54cb633f6ed1611ecde92950c244ab747db420f6", func := "loop.example/constraintsolver/laws.FnExactProveBound", spec := "fnExactProveBound", unfollowed := true, recurses := true, apart := false }
def FnExactProveBoundSaid : Prop := fnExactProveBoundRow.holds Tryz.pinned (OpenSpec.ofChange fnExactProveBoundSpec)

/-- ITS FALSE NEIGHBOUR: 'it returns false'. Refute it at one input. -/
def fnExactProveBoundWrong : ChangeSpec := { name := "fnExactProveBound", fn := fun _ => fun
  | [d1, d2, d3] => { results := [.lit (.bool false)], args := [d1, d2, d3] }
  | _ => none }
def FnExactProveBoundWrongFalsely : Prop := fnExactProveBoundRow.holds Tryz.pinned (OpenSpec.ofChange fnExactProveBoundWrong)

/- THE SECOND FORM. 'bulk': how many values and letters a reading holds, each counted each time it is reached (what is shared counts as often as it is met; a slice's spare places count too). A statement '..UptoSaid' is the law's where the arguments, and the package variables that the reading takes, are together of bulk at most 1048576: NARROWER than '..Said'. Prove '..Said' where nothing that the law and all that it calls make is longer than what came in: it says more and counts as full. Else prove '..UptoSaid'. A law counts once. -/
mutual
def uptoBulk {H : Type} : DataW H → Nat
  | .lit (.string bytes) => bytes.length + 1
  | .lit _ => 1
  | .nil => 1
  | .ptr d => uptoBulk d + 1
  | .slice elems spare => uptoBulkAll elems + uptoBulkAll spare + 1
  | .agg parts => uptoBulkAll parts + 1
  | .iface _ d => uptoBulk d + 1
  | .map entries => uptoBulkEntries entries + 1
  | .held _ => 1
def uptoBulkAll {H : Type} : List (DataW H) → Nat
  | [] => 0
  | d :: r => uptoBulk d + uptoBulkAll r
def uptoBulkEntries {H : Type} : List (Lit × DataW H) → Nat
  | [] => 0
  | x :: r => uptoBulkEntry x + uptoBulkEntries r
def uptoBulkEntry {H : Type} : Lit × DataW H → Nat
  | (.string bytes, d) => bytes.length + uptoBulk d + 1
  | (_, d) => uptoBulk d + 1
 end
def uptoSmall : (H : Type) → List (DataW H) → Bool := fun _ ds => decide (uptoBulkAll ds ≤ 1048576)
def OpenSpec.upto (s : _root_.Go.ChangeSpec) : _root_.Go.OpenSpec := { _root_.Go.OpenSpec.ofChange s with cond := some uptoSmall }

/-- 'laws.FnProveBound', WHERE WHAT IT READS IS OF BULK AT MOST 1048576: true; the input reads as it did. -/
def fnProveBoundUptoRow : OpenClaim := { program := "ytolndgeihijlbaagreat", sum := "58d8dbfda61a7ee144514a8e54cb633f6ed1611ecde92950c244ab747db420f6", func := "loop.example/constraintsolver/laws.FnProveBound", spec := "fnProveBound", unfollowed := true, recurses := true, apart := false, narrowed := true }
def FnProveBoundUptoSaid : Prop := fnProveBoundUptoRow.holds Tryz.pinned (OpenSpec.upto fnProveBoundSpec)

/-- 'laws.FnCheckBound', WHERE WHAT IT READS IS OF BULK AT MOST 1048576: true; the input reads as it did. -/
def fnCheckBoundUptoRow : OpenClaim := { program := "ytolndgeihijlbaagreat", sum := "58d8dbfda61a7ee144514a8e54cb633f6ed1611ecde92950c244ab747db420f6", func := "loop.example/constraintsolver/laws.FnCheckBound", spec := "fnCheckBound", unfollowed := true, recurses := true, apart := false, narrowed := true }
def FnCheckBoundUptoSaid : Prop := fnCheckBoundUptoRow.holds Tryz.pinned (OpenSpec.upto fnCheckBoundSpec)

/-- 'laws.FnBoundOptimal', WHERE WHAT IT READS IS OF BULK AT MOST 1048576: true; the input reads as it did. -/
def fnBoundOptimalUptoRow : OpenClaim := { program := "ytolndgeihijlbaagreat", sum := "58d8dbfda61a7ee144514a8e54cb633f6ed1611ecde92950c244ab747db420f6", func := "loop.example/constraintsolver/laws.FnBoundOptimal", spec := "fnBoundOptimal", unfollowed := true, recurses := true, apart := false, narrowed := true }
def FnBoundOptimalUptoSaid : Prop := fnBoundOptimalUptoRow.holds Tryz.pinned (OpenSpec.upto fnBoundOptimalSpec)

/-- 'laws.FnExactProveBound', WHERE WHAT IT READS IS OF BULK AT MOST 1048576: true; the input reads as it did. -/
def fnExactProveBoundUptoRow : OpenClaim := { program := "ytolndgeihijlbaagreat", sum := "58d8dbfda61a7ee144514a8e54cb633f6ed1611ecde92950c244ab747db420f6", func := "loop.example/constraintsolver/laws.FnExactProveBound", spec := "fnExactProveBound", unfollowed := true, recurses := true, apart := false, narrowed := true }
def FnExactProveBoundUptoSaid : Prop := fnExactProveBoundUptoRow.holds Tryz.pinned (OpenSpec.upto fnExactProveBoundSpec)

end Rows
end Go.Proofs.YtolndgeihijlbaaGreat
