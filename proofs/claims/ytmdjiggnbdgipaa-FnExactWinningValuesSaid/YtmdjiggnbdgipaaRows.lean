/-
  No cell of these rows narrows 'for every input' (looked for: loops, veiled, ifaces, maps, wideKeys, modest, calm, conditions, laid).
  DERIVED. THE GIVEN ROWS OF THIS SEAT. 7 by the template 'for every input the law returns true; each argument reads behind the call as it read before'; 0 by the template 'total and deterministic' (their statements: YtmdjiggnbdgipaaTotals.lean).
  GIVEN WITH THE SEED: the statements are not yours to turn. If you find one false, say at which input.
  Laid BY PROGRAM, IN A SANDBOX (cutbox-rows.mjs): the forced cells as the released guide's own fill.sh prints them over the translation b4782329fb9a71a7… (all of the seat's roots in one cut). By AI agents, Wed Nov 11 2026. No macro, syntax, notation, axiom, sorry.
-/
import Derived.Test.YtmdjiggnbdgipaaChecked
import GoSem.Claim
import GoSem.ClaimJoined
import GoSem.ClaimMapViews
import Derived.JoinedTies
import Derived.KernelRfl
namespace Go.Proofs.Ytmdjiggnbdgipaa
/- THE CELL 'sum', in the pinned program and in every row, IS THE sha256 OF THE DUMP (.gsa) THAT YtmdjiggnbdgipaaProg.lean LOADS. Nothing in Lean hashes anything: it is a label: what it is worth is what the hold of that sum in a sandbox is worth. -/
noncomputable def Try.pinned : Pinned := { name := "ytmdjiggnbdgipaa", sum := "b4782329fb9a71a7cb08b3e4de5cd2b8fc2d81d27afd993d4eea2ac9c8843091", checked := Try.checked }
namespace Rows
def none {H : Type} : Left H := { results := [], args := [] }

/-- 'laws.FnExactNeighbourhood': WHATEVER THE INPUT: true; the input reads as it did. -/
def fnExactNeighbourhoodSpec : ChangeSpec := { name := "fnExactNeighbourhood", fn := fun _ => fun
  | [d1, d2, d3] => { results := [.lit (.bool true)], args := [d1, d2, d3] }
  | _ => none }
def fnExactNeighbourhoodRow : OpenClaim := { program := "ytmdjiggnbdgipaa", sum := "b4782329fb9a71a7cb08b3e4de5cd2b8fc2d81d27afd993d4eea2ac9c8843091", func := "loop.example/constraintsolver/laws.FnExactNeighbourhood", spec := "fnExactNeighbourhood", unfollowed := true, recurses := true, apart := false }
def FnExactNeighbourhoodSaid : Prop := fnExactNeighbourhoodRow.holds Try.pinned (OpenSpec.ofChange fnExactNeighbourhoodSpec)

/-- ITS FALSE NEIGHBOUR: 'it returns false'. Refute it at one input. -/
def fnExactNeighbourhoodWrong : ChangeSpec := { name := "fnExactNeighbourhood", fn := fun _ => fun
  | [d1, d2, d3] => { results := [.lit (.bool false)], args := [d1, d2, d3] }
  | _ => none }
def FnExactNeighbourhoodWrongFalsely : Prop := fnExactNeighbourhoodRow.holds Try.pinned (OpenSpec.ofChange fnExactNeighbourhoodWrong)

/-- 'laws.FnExactSubModel': WHATEVER THE INPUT: true; the input reads as it did. -/
def fnExactSubModelSpec : ChangeSpec := { name := "fnExactSubModel", fn := fun _ => fun
  | [d1, d2] => { results := [.lit (.bool true)], args := [d1, d2] }
  | _ => none }
def fnExactSubModelRow : OpenClaim := { program := "ytmdjiggnbdgipaa", sum := "b4782329fb9a71a7cb08b3e4de5cd2b8fc2d81d27afd993d4eea2ac9c8843091", func := "loop.example/constraintsolver/laws.FnExactSubModel", spec := "fnExactSubModel", unfollowed := true, recurses := true, apart := false }
def FnExactSubModelSaid : Prop := fnExactSubModelRow.holds Try.pinned (OpenSpec.ofChange fnExactSubModelSpec)

/-- ITS FALSE NEIGHBOUR: 'it returns false'. Refute it at one input. -/
def fnExactSubModelWrong : ChangeSpec := { name := "fnExactSubModel", fn := fun _ => fun
  | [d1, d2] => { results := [.lit (.bool false)], args := [d1, d2] }
  | _ => none }
def FnExactSubModelWrongFalsely : Prop := fnExactSubModelRow.holds Try.pinned (OpenSpec.ofChange fnExactSubModelWrong)

/-- 'laws.FnExactIsQuantifiedTrue': WHATEVER THE INPUT: true; the input reads as it did. -/
def fnExactIsQuantifiedTrueSpec : ChangeSpec := { name := "fnExactIsQuantifiedTrue", fn := fun _ => fun
  | [d1, d2] => { results := [.lit (.bool true)], args := [d1, d2] }
  | _ => none }
def fnExactIsQuantifiedTrueRow : OpenClaim := { program := "ytmdjiggnbdgipaa", sum := "b4782329fb9a71a7cb08b3e4de5cd2b8fc2d81d27afd993d4eea2ac9c8843091", func := "loop.example/constraintsolver/laws.FnExactIsQuantifiedTrue", spec := "fnExactIsQuantifiedTrue", unfollowed := true, recurses := true, apart := false }
def FnExactIsQuantifiedTrueSaid : Prop := fnExactIsQuantifiedTrueRow.holds Try.pinned (OpenSpec.ofChange fnExactIsQuantifiedTrueSpec)

/-- ITS FALSE NEIGHBOUR: 'it returns false'. Refute it at one input. -/
def fnExactIsQuantifiedTrueWrong : ChangeSpec := { name := "fnExactIsQuantifiedTrue", fn := fun _ => fun
  | [d1, d2] => { results := [.lit (.bool false)], args := [d1, d2] }
  | _ => none }
def FnExactIsQuantifiedTrueWrongFalsely : Prop := fnExactIsQuantifiedTrueRow.holds Try.pinned (OpenSpec.ofChange fnExactIsQuantifiedTrueWrong)

/-- 'laws.FnExactWinningValues': WHATEVER THE INPUT: true; the input reads as it did. -/
def fnExactWinningValuesSpec : ChangeSpec := { name := "fnExactWinningValues", fn := fun _ => fun
  | [d1, d2] => { results := [.lit (.bool true)], args := [d1, d2] }
  | _ => none }
def fnExactWinningValuesRow : OpenClaim := { program := "ytmdjiggnbdgipaa", sum := "b4782329fb9a71a7cb08b3e4de5cd2b8fc2d81d27afd993d4eea2ac9c8843091", func := "loop.example/constraintsolver/laws.FnExactWinningValues", spec := "fnExactWinningValues", unfollowed := true, recurses := true, apart := false }
def FnExactWinningValuesSaid : Prop := fnExactWinningValuesRow.holds Try.pinned (OpenSpec.ofChange fnExactWinningValuesSpec)

/-- ITS FALSE NEIGHBOUR: 'it returns false'. Refute it at one input. -/
def fnExactWinningValuesWrong : ChangeSpec := { name := "fnExactWinningValues", fn := fun _ => fun
  | [d1, d2] => { results := [.lit (.bool false)], args := [d1, d2] }
  | _ => none }
def FnExactWinningValuesWrongFalsely : Prop := fnExactWinningValuesRow.holds Try.pinned (OpenSpec.ofChange fnExactWinningValuesWrong)

/-- 'laws.FnExactMinimax': WHATEVER THE INPUT: true; the input reads as it did. -/
def fnExactMinimaxSpec : ChangeSpec := { name := "fnExactMinimax", fn := fun _ => fun
  | [d1, d2, d3] => { results := [.lit (.bool true)], args := [d1, d2, d3] }
  | _ => none }
def fnExactMinimaxRow : OpenClaim := { program := "ytmdjiggnbdgipaa", sum := "b4782329fb9a71a7cb08b3e4de5cd2b8fc2d81d27afd993d4eea2ac9c8843091", func := "loop.example/constraintsolver/laws.FnExactMinimax", spec := "fnExactMinimax", unfollowed := true, recurses := true, apart := false }
def FnExactMinimaxSaid : Prop := fnExactMinimaxRow.holds Try.pinned (OpenSpec.ofChange fnExactMinimaxSpec)

/-- ITS FALSE NEIGHBOUR: 'it returns false'. Refute it at one input. -/
def fnExactMinimaxWrong : ChangeSpec := { name := "fnExactMinimax", fn := fun _ => fun
  | [d1, d2, d3] => { results := [.lit (.bool false)], args := [d1, d2, d3] }
  | _ => none }
def FnExactMinimaxWrongFalsely : Prop := fnExactMinimaxRow.holds Try.pinned (OpenSpec.ofChange fnExactMinimaxWrong)

/-- 'laws.FnExactStrategy': WHATEVER THE INPUT: true; the input reads as it did. -/
def fnExactStrategySpec : ChangeSpec := { name := "fnExactStrategy", fn := fun _ => fun
  | [d1, d2] => { results := [.lit (.bool true)], args := [d1, d2] }
  | _ => none }
def fnExactStrategyRow : OpenClaim := { program := "ytmdjiggnbdgipaa", sum := "b4782329fb9a71a7cb08b3e4de5cd2b8fc2d81d27afd993d4eea2ac9c8843091", func := "loop.example/constraintsolver/laws.FnExactStrategy", spec := "fnExactStrategy", unfollowed := true, recurses := true, apart := false }
def FnExactStrategySaid : Prop := fnExactStrategyRow.holds Try.pinned (OpenSpec.ofChange fnExactStrategySpec)

/-- ITS FALSE NEIGHBOUR: 'it returns false'. Refute it at one input. -/
def fnExactStrategyWrong : ChangeSpec := { name := "fnExactStrategy", fn := fun _ => fun
  | [d1, d2] => { results := [.lit (.bool false)], args := [d1, d2] }
  | _ => none }
def FnExactStrategyWrongFalsely : Prop := fnExactStrategyRow.holds Try.pinned (OpenSpec.ofChange fnExactStrategyWrong)

/-- 'laws.FnExactCheckStrategy': WHATEVER THE INPUT: true; the input reads as it did. -/
def fnExactCheckStrategySpec : ChangeSpec := { name := "fnExactCheckStrategy", fn := fun _ => fun
  | [d1, d2, d3] => { results := [.lit (.bool true)], args := [d1, d2, d3] }
  | _ => none }
def fnExactCheckStrategyRow : OpenClaim := { program := "ytmdjiggnbdgipaa", sum := "b4782329fb9a71a7cb08b3e4de5cd2b8fc2d81d27afd993d4eea2ac9c8843091", func := "loop.example/constraintsolver/laws.FnExactCheckStrategy", spec := "fnExactCheckStrategy", unfollowed := true, recurses := true, apart := false }
def FnExactCheckStrategySaid : Prop := fnExactCheckStrategyRow.holds Try.pinned (OpenSpec.ofChange fnExactCheckStrategySpec)

/-- ITS FALSE NEIGHBOUR: 'it returns false'. Refute it at one input. -/
def fnExactCheckStrategyWrong : ChangeSpec := { name := "fnExactCheckStrategy", fn := fun _ => fun
  | [d1, d2, d3] => { results := [.lit (.bool false)], args := [d1, d2, d3] }
  | _ => none }
def FnExactCheckStrategyWrongFalsely : Prop := fnExactCheckStrategyRow.holds Try.pinned (OpenSpec.ofChange fnExactCheckStrategyWrong)

/- THE SECOND FORM. 'bulk': how many values and letters a reading holds, each counted each time it is reached (what is shared counts as often as it is met; a slice's spare places count too). A statement '..UptoSaid' is the law's where the arguments, and the package variables that the reading takes, are together of bulk at most 1048576: NARROWER than '..Said'. Prove '..Said' where nothing that the law and all that it calls make is longer than what came in: it says more and counts as full. Else prove '..UptoSaid'. A law counts once. -/
mutual
def uptoBulk {H : Type} : DataW H → Nat
  | .lit (.string bytes) => bytes.length + 1
  | .lit _ => 1
  | .nil => 1
  | .ptr d => uptoBulk d + 1
  | .slice elems spare => uptoBulkAll elems + uptoBulkAll spare + 1
  | .agg parts => uptoBulkAll parts + 1
  | .iface _ d => uptoBulk d + 1
  | .map entries => uptoBulkEntries entries + 1
  | .held _ => 1
def uptoBulkAll {H : Type} : List (DataW H) → Nat
  | [] => 0
  | d :: r => uptoBulk d + uptoBulkAll r
def uptoBulkEntries {H : Type} : List (Lit × DataW H) → Nat
  | [] => 0
  | x :: r => uptoBulkEntry x + uptoBulkEntries r
def uptoBulkEntry {H : Type} : Lit × DataW H → Nat
  | (.string bytes, d) => bytes.length + uptoBulk d + 1
  | (_, d) => uptoBulk d + 1
 end
def uptoSmall : (H : Type) → List (DataW H) → Bool := fun _ ds => decide (uptoBulkAll ds ≤ 1048576)
def OpenSpec.upto (s : _root_.Go.ChangeSpec) : _root_.Go.OpenSpec := { _root_.Go.OpenSpec.ofChange s with cond := some uptoSmall }

/-- 'laws.FnExactNeighbourhood', WHERE WHAT IT READS IS OF BULK AT MOST 1048576: true; the input reads as it did. -/
def fnExactNeighbourhoodUptoRow : OpenClaim := { program := "ytmdjiggnbdgipaa", sum := "b4782329fb9a71a7cb08b3e4de5cd2b8fc2d81d27afd993d4eea2ac9c8843091", func := "loop.example/constraintsolver/laws.FnExactNeighbourhood", spec := "fnExactNeighbourhood", unfollowed := true, recurses := true, apart := false, narrowed := true }
def FnExactNeighbourhoodUptoSaid : Prop := fnExactNeighbourhoodUptoRow.holds Try.pinned (OpenSpec.upto fnExactNeighbourhoodSpec)

/-- 'laws.FnExactSubModel', WHERE WHAT IT READS IS OF BULK AT MOST 1048576: true; the input reads as it did. -/
def fnExactSubModelUptoRow : OpenClaim := { program := "ytmdjiggnbdgipaa", sum := "b4782329fb9a71a7cb08b3e4de5cd2b8fc2d81d27afd993d4eea2ac9c8843091", func := "loop.example/constraintsolver/laws.FnExactSubModel", spec := "fnExactSubModel", unfollowed := true, recurses := true, apart := false, narrowed := true }
def FnExactSubModelUptoSaid : Prop := fnExactSubModelUptoRow.holds Try.pinned (OpenSpec.upto fnExactSubModelSpec)

/-- 'laws.FnExactIsQuantifiedTrue', WHERE WHAT IT READS IS OF BULK AT MOST 1048576: true; the input reads as it did. -/
def fnExactIsQuantifiedTrueUptoRow : OpenClaim := { program := "ytmdjiggnbdgipaa", sum := "b4782329fb9a71a7cb08b3e4de5cd2b8fc2d81d27afd993d4eea2ac9c8843091", func := "loop.example/constraintsolver/laws.FnExactIsQuantifiedTrue", spec := "fnExactIsQuantifiedTrue", unfollowed := true, recurses := true, apart := false, narrowed := true }
def FnExactIsQuantifiedTrueUptoSaid : Prop := fnExactIsQuantifiedTrueUptoRow.holds Try.pinned (OpenSpec.upto fnExactIsQuantifiedTrueSpec)

/-- 'laws.FnExactWinningValues', WHERE WHAT IT READS IS OF BULK AT MOST 1048576: true; the input reads as it did. -/
def fnExactWinningValuesUptoRow : OpenClaim := { program := "ytmdjiggnbdgipaa", sum := "b4782329fb9a71a7cb08b3e4de5cd2b8fc2d81d27afd993d4eea2ac9c8843091", func := "loop.example/constraintsolver/laws.FnExactWinningValues", spec := "fnExactWinningValues", unfollowed := true, recurses := true, apart := false, narrowed := true }
def FnExactWinningValuesUptoSaid : Prop := fnExactWinningValuesUptoRow.holds Try.pinned (OpenSpec.upto fnExactWinningValuesSpec)

/-- 'laws.FnExactMinimax', WHERE WHAT IT READS IS OF BULK AT MOST 1048576: true; the input reads as it did. -/
def fnExactMinimaxUptoRow : OpenClaim := { program := "ytmdjiggnbdgipaa", sum := "b4782329fb9a71a7cb08b3e4de5cd2b8fc2d81d27afd993d4eea2ac9c8843091", func := "loop.example/constraintsolver/laws.FnExactMinimax", spec := "fnExactMinimax", unfollowed := true, recurses := true, apart := false, narrowed := true }
def FnExactMinimaxUptoSaid : Prop := fnExactMinimaxUptoRow.holds Try.pinned (OpenSpec.upto fnExactMinimaxSpec)

/-- 'laws.FnExactStrategy', WHERE WHAT IT READS IS OF BULK AT MOST 1048576: true; the input reads as it did. -/
def fnExactStrategyUptoRow : OpenClaim := { program := "ytmdjiggnbdgipaa", sum := "b4782329fb9a71a7cb08b3e4de5cd2b8fc2d81d27afd993d4eea2ac9c8843091", func := "loop.example/constraintsolver/laws.FnExactStrategy", spec := "fnExactStrategy", unfollowed := true, recurses := true, apart := false, narrowed := true }
def FnExactStrategyUptoSaid : Prop := fnExactStrategyUptoRow.holds Try.pinned (OpenSpec.upto fnExactStrategySpec)

/-- 'laws.FnExactCheckStrategy', WHERE WHAT IT READS IS OF BULK AT MOST 1048576: true; the input reads as it did. -/
def fnExactCheckStrategyUptoRow : OpenClaim := { program := "ytmdjiggnbdgipaa", sum := "b4782329fb9a71a7cb08b3e4de5cd2b8fc2d81d27afd993d4eea2ac9c8843091", func := "loop.example/constraintsolver/laws.FnExactCheckStrategy", spec := "fnExactCheckStrategy", unfollowed := true, recurses := true, apart := false, narrowed := true }
def FnExactCheckStrategyUptoSaid : Prop := fnExactCheckStrategyUptoRow.holds Try.pinned (OpenSpec.upto fnExactCheckStrategySpec)

end Rows
end Go.Proofs.Ytmdjiggnbdgipaa
