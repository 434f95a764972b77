/- What a statement says of the library's table, as a heaplet. Conditions: none. -/
import Derived.Test.YtiilanckbocifaaDoorRow
import Derived.Test.YtiilanckbocifaaDoorTab
import Derived.LaidMore
import Derived.OpenShut
import Derived.FnData
namespace Go.Proofs.YtiilanckbocifaaDoor
open Go Go.ChangeShapes Go.WideShapes Go.ChangeAt Go.RowKit
set_option linter.unusedSimpArgs false
set_option linter.unusedVariables false
section
variable {H : Type} {enc : TypeId × Value → H} {P : Program} {w : World} {base : Nat} {spare : Nat → Bool} {held : Bool}
theorem trod_int_lit {t : TypeId} {k : IntKind} {n : Nat} {vs : List Value} {v : Int} {ps : List MemPlace} (ht : P.underlying t = some (.int k)) (h : DataW.trod enc P w base spare held n t vs = some (.lit (.int k v), ps)) : vs = [.int k v] := by
  cases n with
  | zero => simp [DataW.trod] at h
  | succ n =>
    unfold DataW.trod at h
    rw [ht] at h
    split at h <;> simp_all
theorem trod_tab {t e : TypeId} {n : Nat} {cs : List Value} {ps : List MemPlace} {vs : List Int} (ht : P.underlying t = some (.array vs.length e)) (he : P.underlying e = some (.int .u8)) (hk : P.cellsOf e = 1) (hc : P.cellsOf t = vs.length)
    (h : DataW.trod enc P w base spare held n t cs = some (.agg (vs.map (fun v => .lit (.int .u8 v))), ps)) : cs = vs.map (Value.int .u8) := by
  obtain ⟨xs, m, rfl, hx, hl, hn, hel⟩ := DataW.trod_array ht h
  rw [hk] at hel
  rw [hc] at hl
  simp only [Prod.mk.injEq, DataW.agg.injEq] at hx
  have hx1 : vs.map (fun v => (.lit (.int .u8 v) : DataW H)) = xs.map (·.1) := hx.1
  apply List.ext_getElem
  · simp [hl]
  · intro i h1 h2
    have hi : i < vs.length := by omega
    have h3 := hel i hi
    have hxi : xs[i]? = some xs[i] := List.getElem?_eq_getElem (by omega)
    rw [hxi] at h3
    have e1 : xs[i].1 = .lit (.int .u8 vs[i]) := by
      have := congrArg (fun l => l[i]?) hx1
      simp only [List.getElem?_map, List.getElem?_eq_getElem hi, hxi, Option.map_some, Option.some.injEq] at this
      exact this.symm
    have e2 : xs[i] = (.lit (.int .u8 vs[i]), xs[i].2) := by rw [← e1]
    rw [e2] at h3
    have h4 := trod_int_lit he h3
    have h5 := congrArg (fun l => l[0]?) h4
    simp only [Nat.mul_one, List.getElem?_take, List.getElem?_drop, Nat.add_zero, Nat.lt_one_iff, if_true, List.getElem?_cons_zero, List.getElem?_eq_getElem h1, Option.some.injEq] at h5
    simpa using h5
theorem at_tab {g : Nat} {name : String} {cs : Array Value} (hg : P.globalNamed name = some g) (hv : w.var? P name = some cs) (hc : cs.toList = tabV) : At (allHp w) (.pointer (some ⟨g, 0, none⟩)) tabV := by
  have cell : ∀ i u, tabV[i]? = some u → w.cell? ⟨g, i, none⟩ = some u := fun i u hu => by
    rw [World.var?_cell hg hv i, ← Array.getElem?_toList, hc]; exact hu
  obtain ⟨cs0, T, fz, h1, h2⟩ := cellAt (cell 0 _ rfl)
  refine ⟨g, 0, cs0, T, fz, rfl, h1, fun j u hj => ?_⟩
  obtain ⟨cs1, T1, fz1, h3, h4⟩ := cellAt (cell j u hj)
  rw [h1] at h3
  obtain ⟨rfl, _, _⟩ := by simpa using h3
  simpa using h4
end
end Go.Proofs.YtiilanckbocifaaDoor
