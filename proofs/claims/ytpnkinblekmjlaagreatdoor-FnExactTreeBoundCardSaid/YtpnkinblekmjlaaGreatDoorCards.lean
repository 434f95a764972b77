/-
  DERIVED. GIVEN WITH THE SEED: THE CARDS: each row of YtpnkinblekmjlaaGreatDoorRows.lean that lists a variable, with what it lists TIED to the program's text (the seventh form; the later family's looks); each row that meets fmt, with fmt's text TOLD by the authors' own Lean function (tested against real Go, not proved from fmt's source: count such statements apart). THE CARD IS WHAT COUNTS. Prove the row's statement (the work); the ties are given (YtpnkinblekmjlaaGreatDoorTie.lean); close each card by the builder's one call (the guide's Derived/Test/ToyasCard.lean, 'card_holds'). Laid BY PROGRAM, IN A SANDBOX (cutbox-door.mjs). By AI agents, Wed Nov 11 2026. No macro, syntax, notation, axiom, sorry.
-/
import Derived.Test.YtpnkinblekmjlaaGreatDoorRows
import GoSem.ClaimSeven
namespace Go.Proofs.YtpnkinblekmjlaaGreatDoor
namespace Rows

/-- THE TIED CARD OF 'laws.FnExactOptimalityGap'. -/
def fnExactOptimalityGapCard : Claim7 := { stood := { row := fnExactOptimalityGapRow, standIns := [], harness := (true, "5a5ef76e5ec6652313929f7bc96cafad69223f3f1c1bdf9c250d9de13c1ef138"), looks := false }, kinds := [], alts := [], laidByText := true, laidKinds := [.data, .data], laidTests := true, laidLooks := .later }
def FnExactOptimalityGapCardSaid : Prop := Claim7.holds Tryz.pinned (.plain (OpenSpec.ofChange fnExactOptimalityGapSpec)) fnExactOptimalityGapCard

/-- THE TIED CARD OF 'laws.FnOptimalityGap'. -/
def fnOptimalityGapCard : Claim7 := { stood := { row := fnOptimalityGapRow, standIns := [], harness := (true, "5a5ef76e5ec6652313929f7bc96cafad69223f3f1c1bdf9c250d9de13c1ef138"), looks := false }, kinds := [], alts := [], laidByText := true, laidKinds := [.data, .data], laidTests := true, laidLooks := .later }
def FnOptimalityGapCardSaid : Prop := Claim7.holds Tryz.pinned (.plain (OpenSpec.ofChange fnOptimalityGapSpec)) fnOptimalityGapCard

/-- THE TIED CARD OF 'laws.FnExactTreeBound'. -/
def fnExactTreeBoundCard : Claim7 := { stood := { row := fnExactTreeBoundRow, standIns := [], harness := (true, "5a5ef76e5ec6652313929f7bc96cafad69223f3f1c1bdf9c250d9de13c1ef138"), looks := false }, kinds := [], alts := [], laidByText := true, laidKinds := [.data, .data], laidTests := true, laidLooks := .later }
def FnExactTreeBoundCardSaid : Prop := Claim7.holds Tryz.pinned (.plain (OpenSpec.ofChange fnExactTreeBoundSpec)) fnExactTreeBoundCard

/-- THE SECOND FORM's CARD OF 'laws.FnExactOptimalityGap'. -/
def fnExactOptimalityGapUptoCard : Claim7 := { stood := { row := fnExactOptimalityGapUptoRow, standIns := [], harness := (true, "5a5ef76e5ec6652313929f7bc96cafad69223f3f1c1bdf9c250d9de13c1ef138"), looks := false }, kinds := [], alts := [], laidByText := true, laidKinds := [.data, .data], laidTests := true, laidLooks := .later }
def FnExactOptimalityGapUptoCardSaid : Prop := Claim7.holds Tryz.pinned (.plain (OpenSpec.upto fnExactOptimalityGapSpec)) fnExactOptimalityGapUptoCard

/-- THE SECOND FORM's CARD OF 'laws.FnOptimalityGap'. -/
def fnOptimalityGapUptoCard : Claim7 := { stood := { row := fnOptimalityGapUptoRow, standIns := [], harness := (true, "5a5ef76e5ec6652313929f7bc96cafad69223f3f1c1bdf9c250d9de13c1ef138"), looks := false }, kinds := [], alts := [], laidByText := true, laidKinds := [.data, .data], laidTests := true, laidLooks := .later }
def FnOptimalityGapUptoCardSaid : Prop := Claim7.holds Tryz.pinned (.plain (OpenSpec.upto fnOptimalityGapSpec)) fnOptimalityGapUptoCard

/-- THE SECOND FORM's CARD OF 'laws.FnExactTreeBound'. -/
def fnExactTreeBoundUptoCard : Claim7 := { stood := { row := fnExactTreeBoundUptoRow, standIns := [], harness := (true, "5a5ef76e5ec6652313929f7bc96cafad69223f3f1c1bdf9c250d9de13c1ef138"), looks := false }, kinds := [], alts := [], laidByText := true, laidKinds := [.data, .data], laidTests := true, laidLooks := .later }
def FnExactTreeBoundUptoCardSaid : Prop := Claim7.holds Tryz.pinned (.plain (OpenSpec.upto fnExactTreeBoundSpec)) fnExactTreeBoundUptoCard
end Rows
end Go.Proofs.YtpnkinblekmjlaaGreatDoor
