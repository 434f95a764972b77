/- From the data of a statement to lists of literals. Conditions: none. -/
import Derived.Test.YtojinjdobjodaaaGreatRow
import Derived.Test.YtojinjdobjodaaaGreatLit
namespace Go.Proofs.YtojinjdobjodaaaGreat
open Go Go.ChangeShapes Go.WideShapes Go.ChangeAt Go.RowKit
set_option linter.unusedSimpArgs false
set_option linter.unusedVariables false
section
variable {H : Type} {enc : TypeId × Value → H} {P : Program} {w : World} {base : Nat} {spare : Nat → Bool} {held : Bool}
structure LitT (P : Program) (t ti tb : TypeId) : Prop where
  lit : ∃ fs : Array Field, P.underlying t = some (.struct fs) ∧ (fs.toList.map fun f => (f.type, f.offset)) = [(ti, 0), (ti, 1), (tb, 2)]
  n : P.cellsOf t = 3
  i : P.underlying ti = some (.int .i64)
  ni : P.cellsOf ti = 1
  b : P.underlying tb = some .bool
  nb : P.cellsOf tb = 1
  by' : 0 < P.bytesOf t
theorem trod_lit {t ti tb : TypeId} (T : LitT P t ti tb) {n : Nat} {vs : List Value} {y : DataW H × List MemPlace} (hl : vs.length = 3) (h : DataW.trod enc P w base spare held n t vs = some y) (hw : Wt P t y.1) : ∃ c : Lit, LitC vs c := by
  obtain ⟨fs, h1, h2⟩ := T.lit
  obtain ⟨xs, m, _, rfl, _, hx, hf⟩ := DataW.trod_struct h1 h
  have get : ∀ i (tt : TypeId) (oo : Nat), ([(ti, 0), (ti, 1), (tb, 2)] : List (TypeId × Nat))[i]? = some (tt, oo) → P.cellsOf tt = 1 → ∃ y : DataW H × List MemPlace, DataW.trod enc P w base spare held m tt ((vs.drop oo).take 1) = some y := fun i tt oo hi hc => by
    rw [← h2, List.getElem?_map, Option.map_eq_some_iff] at hi
    obtain ⟨f, hf1, hf2⟩ := hi
    simp only [Prod.mk.injEq] at hf2
    obtain ⟨rfl, rfl⟩ := hf2
    have hf1' : fs[i]? = some f := by rw [← Array.getElem?_toList]; exact hf1
    have h4 := hf i f hf1'
    have hi5 : i < xs.length := by rw [hx]; exact (Array.getElem?_eq_some_iff.1 hf1').1
    rw [List.getElem?_eq_getElem hi5, hc] at h4
    exact ⟨_, h4⟩
  match vs, hl with
  | [a, b, c], _ =>
    obtain ⟨y0, g0⟩ := get 0 ti 0 rfl T.ni
    obtain ⟨y1, g1⟩ := get 1 ti 1 rfl T.ni
    obtain ⟨y2, g2⟩ := get 2 tb 2 rfl T.nb
    simp only [List.drop_zero, List.drop_succ_cons, List.take_succ_cons, List.take_zero] at g0 g1 g2
    obtain ⟨k, hk⟩ := trod_int T.i g0
    obtain ⟨q, hq⟩ := trod_int T.i g1
    obtain ⟨r, hr⟩ := trod_bool T.b g2
    simp only [List.cons.injEq, and_true] at hk hq hr
    subst hk hq hr
    exact ⟨⟨k, q, r⟩, rfl⟩
theorem trod_lits {t e ti tb : TypeId} (T : LitT P e ti tb) {fuel : Nat} {cs : List Value} {x : DataW H × List MemPlace} (ht : P.underlying t = some (.slice e))
    (h : DataW.trod enc P w base spare held fuel t cs = some x) (hw : Wt P t x.1) : ∃ v xs, cs = [v] ∧ Lits (allHp w) v xs :=
  trod_sl ht T.n (by decide) T.by' (fun _ _ _ hl h hw => trod_lit T hl h hw) h hw
end
end Go.Proofs.YtojinjdobjodaaaGreat
