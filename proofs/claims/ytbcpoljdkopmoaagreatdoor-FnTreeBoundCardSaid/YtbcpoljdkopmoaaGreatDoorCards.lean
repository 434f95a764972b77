/-
  DERIVED. GIVEN WITH THE SEED: THE CARDS: each row of YtbcpoljdkopmoaaGreatDoorRows.lean that lists a variable, with what it lists TIED to the program's text (the seventh form; the later family's looks); each row that meets fmt, with fmt's text TOLD by the authors' own Lean function (tested against real Go, not proved from fmt's source: count such statements apart). THE CARD IS WHAT COUNTS. Prove the row's statement (the work); the ties are given (YtbcpoljdkopmoaaGreatDoorTie.lean); close each card by the builder's one call (the guide's Derived/Test/ToyasCard.lean, 'card_holds'). Laid BY PROGRAM, IN A SANDBOX (cutbox-door.mjs). By AI agents, Wed Nov 11 2026. No macro, syntax, notation, axiom, sorry.
-/
import Derived.Test.YtbcpoljdkopmoaaGreatDoorRows
import GoSem.ClaimSeven
namespace Go.Proofs.YtbcpoljdkopmoaaGreatDoor
namespace Rows

/-- THE TIED CARD OF 'laws.FnTreeBound'. -/
def fnTreeBoundCard : Claim7 := { stood := { row := fnTreeBoundRow, standIns := [], harness := (true, "e914314105170239734601764defd7775c0dadf823e77632a8b882bb3684069b"), looks := false }, kinds := [], alts := [], laidByText := true, laidKinds := [.data, .data], laidTests := true, laidLooks := .later }
def FnTreeBoundCardSaid : Prop := Claim7.holds Tryz.pinned (.plain (OpenSpec.ofChange fnTreeBoundSpec)) fnTreeBoundCard

/-- THE SECOND FORM's CARD OF 'laws.FnTreeBound'. -/
def fnTreeBoundUptoCard : Claim7 := { stood := { row := fnTreeBoundUptoRow, standIns := [], harness := (true, "e914314105170239734601764defd7775c0dadf823e77632a8b882bb3684069b"), looks := false }, kinds := [], alts := [], laidByText := true, laidKinds := [.data, .data], laidTests := true, laidLooks := .later }
def FnTreeBoundUptoCardSaid : Prop := Claim7.holds Tryz.pinned (.plain (OpenSpec.upto fnTreeBoundSpec)) fnTreeBoundUptoCard
end Rows
end Go.Proofs.YtbcpoljdkopmoaaGreatDoor
