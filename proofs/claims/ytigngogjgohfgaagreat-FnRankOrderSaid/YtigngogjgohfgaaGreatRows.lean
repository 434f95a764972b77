/-
  No cell of these rows narrows 'for every input' (looked for: loops, veiled, ifaces, maps, wideKeys, modest, calm, conditions, laid).
  DERIVED. THE GIVEN ROWS OF THIS SEAT. 4 by the template 'for every input the law returns true; each argument reads behind the call as it read before'; 0 by the template 'total and deterministic' (their statements: YtigngogjgohfgaaGreatTotals.lean).
  GIVEN WITH THE SEED: the statements are not yours to turn. If you find one false, say at which input.
  Laid BY PROGRAM, IN A SANDBOX (cutbox-rows.mjs): the forced cells as the released guide's own fill.sh prints them over the translation 8808bd363da06dc0… (all of the seat's roots in one cut). By AI agents, Wed Nov 11 2026. No macro, syntax, notation, axiom, sorry.
-/
import Derived.Test.YtigngogjgohfgaaGreatChecked
import GoSem.Claim
import GoSem.ClaimJoined
import GoSem.ClaimMapViews
import Derived.JoinedTies
import Derived.KernelRfl
namespace Go.Proofs.YtigngogjgohfgaaGreat
/- THE CELL 'sum', in the pinned program and in every row, IS THE sha256 OF THE DUMP (.gsa) THAT YtigngogjgohfgaaGreatProg.lean LOADS. Nothing in Lean hashes anything: it is a label: what it is worth is what the hold of that sum in a sandbox is worth. -/
noncomputable def Tryz.pinned : Pinned := { name := "ytigngogjgohfgaagreat", sum := "8808bd363da06dc0f029ab4f59575eea0152aebbb6aa39a0a51e1a8365ba63db", checked := Tryz.checked }
namespace Rows
def none {H : Type} : Left H := { results := [], args := [] }

/-- 'laws.FnRobustAll': WHATEVER THE INPUT: true; the input reads as it did. -/
def fnRobustAllSpec : ChangeSpec := { name := "fnRobustAll", fn := fun _ => fun
  | [d] => { results := [.lit (.bool true)], args := [d] }
  | _ => none }
def fnRobustAllRow : OpenClaim := { program := "ytigngogjgohfgaagreat", sum := "8808bd363da06dc0f029ab4f59575eea0152aebbb6aa39a0a51e1a8365ba63db", func := "loop.example/constraintsolver/laws.FnRobustAll", spec := "fnRobustAll", unfollowed := true, recurses := true, apart := false }
def FnRobustAllSaid : Prop := fnRobustAllRow.holds Tryz.pinned (OpenSpec.ofChange fnRobustAllSpec)

/-- ITS FALSE NEIGHBOUR: 'it returns false'. Refute it at one input. -/
def fnRobustAllWrong : ChangeSpec := { name := "fnRobustAll", fn := fun _ => fun
  | [d] => { results := [.lit (.bool false)], args := [d] }
  | _ => none }
def FnRobustAllWrongFalsely : Prop := fnRobustAllRow.holds Tryz.pinned (OpenSpec.ofChange fnRobustAllWrong)

/-- 'laws.FnMinimaxAttained': WHATEVER THE INPUT: true; the input reads as it did. -/
def fnMinimaxAttainedSpec : ChangeSpec := { name := "fnMinimaxAttained", fn := fun _ => fun
  | [d] => { results := [.lit (.bool true)], args := [d] }
  | _ => none }
def fnMinimaxAttainedRow : OpenClaim := { program := "ytigngogjgohfgaagreat", sum := "8808bd363da06dc0f029ab4f59575eea0152aebbb6aa39a0a51e1a8365ba63db", func := "loop.example/constraintsolver/laws.FnMinimaxAttained", spec := "fnMinimaxAttained", unfollowed := true, recurses := true, apart := false }
def FnMinimaxAttainedSaid : Prop := fnMinimaxAttainedRow.holds Tryz.pinned (OpenSpec.ofChange fnMinimaxAttainedSpec)

/-- ITS FALSE NEIGHBOUR: 'it returns false'. Refute it at one input. -/
def fnMinimaxAttainedWrong : ChangeSpec := { name := "fnMinimaxAttained", fn := fun _ => fun
  | [d] => { results := [.lit (.bool false)], args := [d] }
  | _ => none }
def FnMinimaxAttainedWrongFalsely : Prop := fnMinimaxAttainedRow.holds Tryz.pinned (OpenSpec.ofChange fnMinimaxAttainedWrong)

/-- 'laws.FnMinimax': WHATEVER THE INPUT: true; the input reads as it did. -/
def fnMinimaxSpec : ChangeSpec := { name := "fnMinimax", fn := fun _ => fun
  | [d] => { results := [.lit (.bool true)], args := [d] }
  | _ => none }
def fnMinimaxRow : OpenClaim := { program := "ytigngogjgohfgaagreat", sum := "8808bd363da06dc0f029ab4f59575eea0152aebbb6aa39a0a51e1a8365ba63db", func := "loop.example/constraintsolver/laws.FnMinimax", spec := "fnMinimax", unfollowed := true, recurses := true, apart := false }
def FnMinimaxSaid : Prop := fnMinimaxRow.holds Tryz.pinned (OpenSpec.ofChange fnMinimaxSpec)

/-- ITS FALSE NEIGHBOUR: 'it returns false'. Refute it at one input. -/
def fnMinimaxWrong : ChangeSpec := { name := "fnMinimax", fn := fun _ => fun
  | [d] => { results := [.lit (.bool false)], args := [d] }
  | _ => none }
def FnMinimaxWrongFalsely : Prop := fnMinimaxRow.holds Tryz.pinned (OpenSpec.ofChange fnMinimaxWrong)

/-- 'laws.FnRankOrder': WHATEVER THE INPUT: true; the input reads as it did. -/
def fnRankOrderSpec : ChangeSpec := { name := "fnRankOrder", fn := fun _ => fun
  | [d] => { results := [.lit (.bool true)], args := [d] }
  | _ => none }
def fnRankOrderRow : OpenClaim := { program := "ytigngogjgohfgaagreat", sum := "8808bd363da06dc0f029ab4f59575eea0152aebbb6aa39a0a51e1a8365ba63db", func := "loop.example/constraintsolver/laws.FnRankOrder", spec := "fnRankOrder", unfollowed := true, recurses := true, apart := false }
def FnRankOrderSaid : Prop := fnRankOrderRow.holds Tryz.pinned (OpenSpec.ofChange fnRankOrderSpec)

/-- ITS FALSE NEIGHBOUR: 'it returns false'. Refute it at one input. -/
def fnRankOrderWrong : ChangeSpec := { name := "fnRankOrder", fn := fun _ => fun
  | [d] => { results := [.lit (.bool false)], args := [d] }
  | _ => none }
def FnRankOrderWrongFalsely : Prop := fnRankOrderRow.holds Tryz.pinned (OpenSpec.ofChange fnRankOrderWrong)

/- THE SECOND FORM. 'bulk': how many values and letters a reading holds, each counted each time it is reached (what is shared counts as often as it is met; a slice's spare places count too). A statement '..UptoSaid' is the law's where the arguments, and the package variables that the reading takes, are together of bulk at most 1048576: NARROWER than '..Said'. Prove '..Said' where nothing that the law and all that it calls make is longer than what came in: it says more and counts as full. Else prove '..UptoSaid'. A law counts once. -/
mutual
def uptoBulk {H : Type} : DataW H → Nat
  | .lit (.string bytes) => bytes.length + 1
  | .lit _ => 1
  | .nil => 1
  | .ptr d => uptoBulk d + 1
  | .slice elems spare => uptoBulkAll elems + uptoBulkAll spare + 1
  | .agg parts => uptoBulkAll parts + 1
  | .iface _ d => uptoBulk d + 1
  | .map entries => uptoBulkEntries entries + 1
  | .held _ => 1
def uptoBulkAll {H : Type} : List (DataW H) → Nat
  | [] => 0
  | d :: r => uptoBulk d + uptoBulkAll r
def uptoBulkEntries {H : Type} : List (Lit × DataW H) → Nat
  | [] => 0
  | x :: r => uptoBulkEntry x + uptoBulkEntries r
def uptoBulkEntry {H : Type} : Lit × DataW H → Nat
  | (.string bytes, d) => bytes.length + uptoBulk d + 1
  | (_, d) => uptoBulk d + 1
 end
def uptoSmall : (H : Type) → List (DataW H) → Bool := fun _ ds => decide (uptoBulkAll ds ≤ 1048576)
def OpenSpec.upto (s : _root_.Go.ChangeSpec) : _root_.Go.OpenSpec := { _root_.Go.OpenSpec.ofChange s with cond := some uptoSmall }

/-- 'laws.FnRobustAll', WHERE WHAT IT READS IS OF BULK AT MOST 1048576: true; the input reads as it did. -/
def fnRobustAllUptoRow : OpenClaim := { program := "ytigngogjgohfgaagreat", sum := "8808bd363da06dc0f029ab4f59575eea0152aebbb6aa39a0a51e1a8365ba63db", func := "loop.example/constraintsolver/laws.FnRobustAll", spec := "fnRobustAll", unfollowed := true, recurses := true, apart := false, narrowed := true }
def FnRobustAllUptoSaid : Prop := fnRobustAllUptoRow.holds Tryz.pinned (OpenSpec.upto fnRobustAllSpec)

/-- 'laws.FnMinimaxAttained', WHERE WHAT IT READS IS OF BULK AT MOST 1048576: true; the input reads as it did. -/
def fnMinimaxAttainedUptoRow : OpenClaim := { program := "ytigngogjgohfgaagreat", sum := "8808bd363da06dc0f029ab4f59575eea0152aebbb6aa39a0a51e1a8365ba63db", func := "loop.example/constraintsolver/laws.FnMinimaxAttained", spec := "fnMinimaxAttained", unfollowed := true, recurses := true, apart := false, narrowed := true }
def FnMinimaxAttainedUptoSaid : Prop := fnMinimaxAttainedUptoRow.holds Tryz.pinned (OpenSpec.upto fnMinimaxAttainedSpec)

/-- 'laws.FnMinimax', WHERE WHAT IT READS IS OF BULK AT MOST 1048576: true; the input reads as it did. -/
def fnMinimaxUptoRow : OpenClaim := { program := "ytigngogjgohfgaagreat", sum := "8808bd363da06dc0f029ab4f59575eea0152aebbb6aa39a0a51e1a8365ba63db", func := "loop.example/constraintsolver/laws.FnMinimax", spec := "fnMinimax", unfollowed := true, recurses := true, apart := false, narrowed := true }
def FnMinimaxUptoSaid : Prop := fnMinimaxUptoRow.holds Tryz.pinned (OpenSpec.upto fnMinimaxSpec)

/-- 'laws.FnRankOrder', WHERE WHAT IT READS IS OF BULK AT MOST 1048576: true; the input reads as it did. -/
def fnRankOrderUptoRow : OpenClaim := { program := "ytigngogjgohfgaagreat", sum := "8808bd363da06dc0f029ab4f59575eea0152aebbb6aa39a0a51e1a8365ba63db", func := "loop.example/constraintsolver/laws.FnRankOrder", spec := "fnRankOrder", unfollowed := true, recurses := true, apart := false, narrowed := true }
def FnRankOrderUptoSaid : Prop := fnRankOrderUptoRow.holds Tryz.pinned (OpenSpec.upto fnRankOrderSpec)

end Rows
end Go.Proofs.YtigngogjgohfgaaGreat
