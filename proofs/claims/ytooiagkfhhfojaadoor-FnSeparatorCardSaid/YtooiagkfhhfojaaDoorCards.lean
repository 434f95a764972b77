/-
  DERIVED. GIVEN WITH THE SEED: THE CARDS: each row of YtooiagkfhhfojaaDoorRows.lean that lists a variable, with what it lists TIED to the program's text (the seventh form; the later family's looks); each row that meets fmt, with fmt's text TOLD by the authors' own Lean function (tested against real Go, not proved from fmt's source: count such statements apart). THE CARD IS WHAT COUNTS. Prove the row's statement (the work); the ties are given (YtooiagkfhhfojaaDoorTie.lean); close each card by the builder's one call (the guide's Derived/Test/ToyasCard.lean, 'card_holds'). Laid BY PROGRAM, IN A SANDBOX (cutbox-door.mjs). By AI agents, Wed Nov 11 2026. No macro, syntax, notation, axiom, sorry.
-/
import Derived.Test.YtooiagkfhhfojaaDoorRows
import GoSem.ClaimSeven
namespace Go.Proofs.YtooiagkfhhfojaaDoor
namespace Rows

/-- THE TIED CARD OF 'laws.FnComponents'. -/
def fnComponentsCard : Claim7 := { stood := { row := fnComponentsRow, standIns := [], harness := (true, "5ab4446bf5ce3f9e5654352906d836e135902ebaf3d98344e3b30f47a9f91a6b"), looks := false }, kinds := [], alts := [], laidByText := true, laidKinds := [.data, .data], laidTests := true, laidLooks := .later }
def FnComponentsCardSaid : Prop := Claim7.holds Tryd.pinned (.plain (OpenSpec.ofChange fnComponentsSpec)) fnComponentsCard

/-- THE TIED CARD OF 'laws.FnSeparator'. -/
def fnSeparatorCard : Claim7 := { stood := { row := fnSeparatorRow, standIns := [], harness := (true, "5ab4446bf5ce3f9e5654352906d836e135902ebaf3d98344e3b30f47a9f91a6b"), looks := false }, kinds := [], alts := [], laidByText := true, laidKinds := [.data, .data], laidTests := true, laidLooks := .later }
def FnSeparatorCardSaid : Prop := Claim7.holds Tryd.pinned (.plain (OpenSpec.ofChange fnSeparatorSpec)) fnSeparatorCard

/-- THE TIED CARD OF 'laws.FnExactComponents'. -/
def fnExactComponentsCard : Claim7 := { stood := { row := fnExactComponentsRow, standIns := [], harness := (true, "5ab4446bf5ce3f9e5654352906d836e135902ebaf3d98344e3b30f47a9f91a6b"), looks := false }, kinds := [], alts := [], laidByText := true, laidKinds := [.data, .data], laidTests := true, laidLooks := .later }
def FnExactComponentsCardSaid : Prop := Claim7.holds Tryd.pinned (.plain (OpenSpec.ofChange fnExactComponentsSpec)) fnExactComponentsCard

/-- THE SECOND FORM's CARD OF 'laws.FnComponents'. -/
def fnComponentsUptoCard : Claim7 := { stood := { row := fnComponentsUptoRow, standIns := [], harness := (true, "5ab4446bf5ce3f9e5654352906d836e135902ebaf3d98344e3b30f47a9f91a6b"), looks := false }, kinds := [], alts := [], laidByText := true, laidKinds := [.data, .data], laidTests := true, laidLooks := .later }
def FnComponentsUptoCardSaid : Prop := Claim7.holds Tryd.pinned (.plain (OpenSpec.upto fnComponentsSpec)) fnComponentsUptoCard

/-- THE SECOND FORM's CARD OF 'laws.FnSeparator'. -/
def fnSeparatorUptoCard : Claim7 := { stood := { row := fnSeparatorUptoRow, standIns := [], harness := (true, "5ab4446bf5ce3f9e5654352906d836e135902ebaf3d98344e3b30f47a9f91a6b"), looks := false }, kinds := [], alts := [], laidByText := true, laidKinds := [.data, .data], laidTests := true, laidLooks := .later }
def FnSeparatorUptoCardSaid : Prop := Claim7.holds Tryd.pinned (.plain (OpenSpec.upto fnSeparatorSpec)) fnSeparatorUptoCard

/-- THE SECOND FORM's CARD OF 'laws.FnExactComponents'. -/
def fnExactComponentsUptoCard : Claim7 := { stood := { row := fnExactComponentsUptoRow, standIns := [], harness := (true, "5ab4446bf5ce3f9e5654352906d836e135902ebaf3d98344e3b30f47a9f91a6b"), looks := false }, kinds := [], alts := [], laidByText := true, laidKinds := [.data, .data], laidTests := true, laidLooks := .later }
def FnExactComponentsUptoCardSaid : Prop := Claim7.holds Tryd.pinned (.plain (OpenSpec.upto fnExactComponentsSpec)) fnExactComponentsUptoCard
end Rows
end Go.Proofs.YtooiagkfhhfojaaDoor
