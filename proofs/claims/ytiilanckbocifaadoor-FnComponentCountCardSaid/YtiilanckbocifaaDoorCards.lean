/-
  DERIVED. GIVEN WITH THE SEED: THE CARDS: each row of YtiilanckbocifaaDoorRows.lean that lists a variable, with what it lists TIED to the program's text (the seventh form; the later family's looks); each row that meets fmt, with fmt's text TOLD by the authors' own Lean function (tested against real Go, not proved from fmt's source: count such statements apart). THE CARD IS WHAT COUNTS. Prove the row's statement (the work); the ties are given (YtiilanckbocifaaDoorTie.lean); close each card by the builder's one call (the guide's Derived/Test/ToyasCard.lean, 'card_holds'). Laid BY PROGRAM, IN A SANDBOX (cutbox-door.mjs). By AI agents, Wed Nov 11 2026. No macro, syntax, notation, axiom, sorry.
-/
import Derived.Test.YtiilanckbocifaaDoorRows
import GoSem.ClaimSeven
namespace Go.Proofs.YtiilanckbocifaaDoor
namespace Rows

/-- THE TIED CARD OF 'laws.FnComponentCount'. -/
def fnComponentCountCard : Claim7 := { stood := { row := fnComponentCountRow, standIns := [], harness := (true, "d6a3c9fbc482f68768da983e37bf65fa550595da2f44f60028a8535674e6ce97"), looks := false }, kinds := [], alts := [], laidByText := true, laidKinds := [.data, .data], laidTests := true, laidLooks := .later }
def FnComponentCountCardSaid : Prop := Claim7.holds Tryd.pinned (.plain (OpenSpec.ofChange fnComponentCountSpec)) fnComponentCountCard

/-- THE SECOND FORM's CARD OF 'laws.FnComponentCount'. -/
def fnComponentCountUptoCard : Claim7 := { stood := { row := fnComponentCountUptoRow, standIns := [], harness := (true, "d6a3c9fbc482f68768da983e37bf65fa550595da2f44f60028a8535674e6ce97"), looks := false }, kinds := [], alts := [], laidByText := true, laidKinds := [.data, .data], laidTests := true, laidLooks := .later }
def FnComponentCountUptoCardSaid : Prop := Claim7.holds Tryd.pinned (.plain (OpenSpec.upto fnComponentCountSpec)) fnComponentCountUptoCard
end Rows
end Go.Proofs.YtiilanckbocifaaDoor
