/- From the data of a statement to lists of clauses. Conditions: none. -/
import Derived.Test.YtojinjdobjodaaaGreatRlit
import Derived.Test.YtojinjdobjodaaaGreatLrw
namespace Go.Proofs.YtojinjdobjodaaaGreat
open Go Go.ChangeShapes Go.WideShapes Go.ChangeAt Go.RowKit
section
variable {H : Type} {enc : TypeId × Value → H} {P : Program} {w : World} {base : Nat} {spare : Nat → Bool} {held : Bool}
theorem open_lrowsA {t e1 e ti tb : TypeId} (T : LitT P e ti tb) {r : Reach} {b0 : Nat} {v : Value} {d : DataW H} {ps : List MemPlace} (ht : P.underlying t = some (.slice e1)) (hk : P.cellsOf e1 = 1) (he : P.underlying e1 = some (.slice e)) (hb : 0 < P.bytesOf e1)
    (hval : Value.okWide P w r b0 t v) (h : DataW.Trod enc P w base spare held t v d ps) (hw : Wt P t d) : ∃ xs, LRows (allHp w) v xs := by
  obtain ⟨a, l, c, rfl⟩ := okWide_slice ht hval
  obtain ⟨n, h⟩ := h
  obtain ⟨v, xs, e9, h1⟩ := trod_sl (R := SlC (allHp w) 3 LitC) ht hk (by decide) hb (fun _ _ _ hl h hw => by
    obtain ⟨v, xs, e8, h1⟩ := trod_lits T he h hw
    exact ⟨xs, v, e8, h1⟩) h hw
  have : [Value.slice a l c] = [v] := e9
  simp only [List.cons.injEq, and_true] at this
  exact ⟨xs, this ▸ h1⟩
end
end Go.Proofs.YtojinjdobjodaaaGreat
