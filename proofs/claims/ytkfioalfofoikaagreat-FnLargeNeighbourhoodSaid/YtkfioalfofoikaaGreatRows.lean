/-
  No cell of these rows narrows 'for every input' (looked for: loops, veiled, ifaces, maps, wideKeys, modest, calm, conditions, laid).
  DERIVED. THE GIVEN ROWS OF THIS SEAT. 3 by the template 'for every input the law returns true; each argument reads behind the call as it read before'; 0 by the template 'total and deterministic' (their statements: YtkfioalfofoikaaGreatTotals.lean).
  GIVEN WITH THE SEED: the statements are not yours to turn. If you find one false, say at which input.
  Laid BY PROGRAM, IN A SANDBOX (cutbox-rows.mjs): the forced cells as the released guide's own fill.sh prints them over the translation 4f8a5f36fcb8fb4b… (all of the seat's roots in one cut). By AI agents, Wed Nov 11 2026. No macro, syntax, notation, axiom, sorry.
-/
import Derived.Test.YtkfioalfofoikaaGreatChecked
import GoSem.Claim
import GoSem.ClaimJoined
import GoSem.ClaimMapViews
import Derived.JoinedTies
import Derived.KernelRfl
namespace Go.Proofs.YtkfioalfofoikaaGreat
/- THE CELL 'sum', in the pinned program and in every row, IS THE sha256 OF THE DUMP (.gsa) THAT YtkfioalfofoikaaGreatProg.lean LOADS. Nothing in Lean hashes anything: it is a label: what it is worth is what the hold of that sum in a sandbox is worth. -/
noncomputable def Tryz.pinned : Pinned := { name := "ytkfioalfofoikaagreat", sum := "4f8a5f36fcb8fb4bcf239fe0f561e2ac5f597444f92e494e1a8a7186e5262719", checked := Tryz.checked }
namespace Rows
def none {H : Type} : Left H := { results := [], args := [] }

/-- 'laws.FnExactLargeNeighbourhoodSearch': WHATEVER THE INPUT: true; the input reads as it did. -/
def fnExactLargeNeighbourhoodSearchSpec : ChangeSpec := { name := "fnExactLargeNeighbourhoodSearch", fn := fun _ => fun
  | [d1, d2, d3, d4] => { results := [.lit (.bool true)], args := [d1, d2, d3, d4] }
  | _ => none }
def fnExactLargeNeighbourhoodSearchRow : OpenClaim := { program := "ytkfioalfofoikaagreat", sum := "4f8a5f36fcb8fb4bcf239fe0f561e2ac5f597444f92e494e1a8a7186e5262719", func := "loop.example/constraintsolver/laws.FnExactLargeNeighbourhoodSearch", spec := "fnExactLargeNeighbourhoodSearch", unfollowed := true, recurses := true, apart := false }
def FnExactLargeNeighbourhoodSearchSaid : Prop := fnExactLargeNeighbourhoodSearchRow.holds Tryz.pinned (OpenSpec.ofChange fnExactLargeNeighbourhoodSearchSpec)

/-- ITS FALSE NEIGHBOUR: 'it returns false'. Refute it at one input. -/
def fnExactLargeNeighbourhoodSearchWrong : ChangeSpec := { name := "fnExactLargeNeighbourhoodSearch", fn := fun _ => fun
  | [d1, d2, d3, d4] => { results := [.lit (.bool false)], args := [d1, d2, d3, d4] }
  | _ => none }
def FnExactLargeNeighbourhoodSearchWrongFalsely : Prop := fnExactLargeNeighbourhoodSearchRow.holds Tryz.pinned (OpenSpec.ofChange fnExactLargeNeighbourhoodSearchWrong)

/-- 'laws.FnLargeNeighbourhood': WHATEVER THE INPUT: true; the input reads as it did. -/
def fnLargeNeighbourhoodSpec : ChangeSpec := { name := "fnLargeNeighbourhood", fn := fun _ => fun
  | [d] => { results := [.lit (.bool true)], args := [d] }
  | _ => none }
def fnLargeNeighbourhoodRow : OpenClaim := { program := "ytkfioalfofoikaagreat", sum := "4f8a5f36fcb8fb4bcf239fe0f561e2ac5f597444f92e494e1a8a7186e5262719", func := "loop.example/constraintsolver/laws.FnLargeNeighbourhood", spec := "fnLargeNeighbourhood", unfollowed := true, recurses := true, apart := false }
def FnLargeNeighbourhoodSaid : Prop := fnLargeNeighbourhoodRow.holds Tryz.pinned (OpenSpec.ofChange fnLargeNeighbourhoodSpec)

/-- ITS FALSE NEIGHBOUR: 'it returns false'. Refute it at one input. -/
def fnLargeNeighbourhoodWrong : ChangeSpec := { name := "fnLargeNeighbourhood", fn := fun _ => fun
  | [d] => { results := [.lit (.bool false)], args := [d] }
  | _ => none }
def FnLargeNeighbourhoodWrongFalsely : Prop := fnLargeNeighbourhoodRow.holds Tryz.pinned (OpenSpec.ofChange fnLargeNeighbourhoodWrong)

/-- 'laws.FnLargeNeighbourhoodFree': WHATEVER THE INPUT: true; the input reads as it did. -/
def fnLargeNeighbourhoodFreeSpec : ChangeSpec := { name := "fnLargeNeighbourhoodFree", fn := fun _ => fun
  | [d] => { results := [.lit (.bool true)], args := [d] }
  | _ => none }
def fnLargeNeighbourhoodFreeRow : OpenClaim := { program := "ytkfioalfofoikaagreat", sum := "4f8a5f36fcb8fb4bcf239fe0f561e2ac5f597444f92e494e1a8a7186e5262719", func := "loop.example/constraintsolver/laws.FnLargeNeighbourhoodFree", spec := "fnLargeNeighbourhoodFree", unfollowed := true, recurses := true, apart := false }
def FnLargeNeighbourhoodFreeSaid : Prop := fnLargeNeighbourhoodFreeRow.holds Tryz.pinned (OpenSpec.ofChange fnLargeNeighbourhoodFreeSpec)

/-- ITS FALSE NEIGHBOUR: 'it returns false'. Refute it at one input. -/
def fnLargeNeighbourhoodFreeWrong : ChangeSpec := { name := "fnLargeNeighbourhoodFree", fn := fun _ => fun
  | [d] => { results := [.lit (.bool false)], args := [d] }
  | _ => none }
def FnLargeNeighbourhoodFreeWrongFalsely : Prop := fnLargeNeighbourhoodFreeRow.holds Tryz.pinned (OpenSpec.ofChange fnLargeNeighbourhoodFreeWrong)

/- THE SECOND FORM. 'bulk': how many values and letters a reading holds, each counted each time it is reached (what is shared counts as often as it is met; a slice's spare places count too). A statement '..UptoSaid' is the law's where the arguments, and the package variables that the reading takes, are together of bulk at most 1048576: NARROWER than '..Said'. Prove '..Said' where nothing that the law and all that it calls make is longer than what came in: it says more and counts as full. Else prove '..UptoSaid'. A law counts once. -/
mutual
def uptoBulk {H : Type} : DataW H → Nat
  | .lit (.string bytes) => bytes.length + 1
  | .lit _ => 1
  | .nil => 1
  | .ptr d => uptoBulk d + 1
  | .slice elems spare => uptoBulkAll elems + uptoBulkAll spare + 1
  | .agg parts => uptoBulkAll parts + 1
  | .iface _ d => uptoBulk d + 1
  | .map entries => uptoBulkEntries entries + 1
  | .held _ => 1
def uptoBulkAll {H : Type} : List (DataW H) → Nat
  | [] => 0
  | d :: r => uptoBulk d + uptoBulkAll r
def uptoBulkEntries {H : Type} : List (Lit × DataW H) → Nat
  | [] => 0
  | x :: r => uptoBulkEntry x + uptoBulkEntries r
def uptoBulkEntry {H : Type} : Lit × DataW H → Nat
  | (.string bytes, d) => bytes.length + uptoBulk d + 1
  | (_, d) => uptoBulk d + 1
 end
def uptoSmall : (H : Type) → List (DataW H) → Bool := fun _ ds => decide (uptoBulkAll ds ≤ 1048576)
def OpenSpec.upto (s : _root_.Go.ChangeSpec) : _root_.Go.OpenSpec := { _root_.Go.OpenSpec.ofChange s with cond := some uptoSmall }

/-- 'laws.FnExactLargeNeighbourhoodSearch', WHERE WHAT IT READS IS OF BULK AT MOST 1048576: true; the input reads as it did. -/
def fnExactLargeNeighbourhoodSearchUptoRow : OpenClaim := { program := "ytkfioalfofoikaagreat", sum := "4f8a5f36fcb8fb4bcf239fe0f561e2ac5f597444f92e494e1a8a7186e5262719", func := "loop.example/constraintsolver/laws.FnExactLargeNeighbourhoodSearch", spec := "fnExactLargeNeighbourhoodSearch", unfollowed := true, recurses := true, apart := false, narrowed := true }
def FnExactLargeNeighbourhoodSearchUptoSaid : Prop := fnExactLargeNeighbourhoodSearchUptoRow.holds Tryz.pinned (OpenSpec.upto fnExactLargeNeighbourhoodSearchSpec)

/-- 'laws.FnLargeNeighbourhood', WHERE WHAT IT READS IS OF BULK AT MOST 1048576: true; the input reads as it did. -/
def fnLargeNeighbourhoodUptoRow : OpenClaim := { program := "ytkfioalfofoikaagreat", sum := "4f8a5f36fcb8fb4bcf239fe0f561e2ac5f597444f92e494e1a8a7186e5262719", func := "loop.example/constraintsolver/laws.FnLargeNeighbourhood", spec := "fnLargeNeighbourhood", unfollowed := true, recurses := true, apart := false, narrowed := true }
def FnLargeNeighbourhoodUptoSaid : Prop := fnLargeNeighbourhoodUptoRow.holds Tryz.pinned (OpenSpec.upto fnLargeNeighbourhoodSpec)

/-- 'laws.FnLargeNeighbourhoodFree', WHERE WHAT IT READS IS OF BULK AT MOST 1048576: true; the input reads as it did. -/
def fnLargeNeighbourhoodFreeUptoRow : OpenClaim := { program := "ytkfioalfofoikaagreat", sum := "4f8a5f36fcb8fb4bcf239fe0f561e2ac5f597444f92e494e1a8a7186e5262719", func := "loop.example/constraintsolver/laws.FnLargeNeighbourhoodFree", spec := "fnLargeNeighbourhoodFree", unfollowed := true, recurses := true, apart := false, narrowed := true }
def FnLargeNeighbourhoodFreeUptoSaid : Prop := fnLargeNeighbourhoodFreeUptoRow.holds Tryz.pinned (OpenSpec.upto fnLargeNeighbourhoodFreeSpec)

end Rows
end Go.Proofs.YtkfioalfofoikaaGreat
