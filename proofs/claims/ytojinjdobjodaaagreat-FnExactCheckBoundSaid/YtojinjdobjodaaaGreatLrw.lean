/- Lists of clauses: each a list of literals. Conditions: none. -/
import Derived.Test.YtojinjdobjodaaaGreatLit
namespace Go.Proofs.YtojinjdobjodaaaGreat
open Go
set_option linter.unusedSimpArgs false
set_option linter.unusedVariables false
def LRowV : Rel (List Lit) := fun K vs xs => ∃ u, vs = [u] ∧ Lits K u xs
instance : RMono LRowV := ⟨fun hk ⟨u, e, h⟩ => ⟨u, e, h.mono hk (fun _ _ h => h)⟩⟩
instance : ROne LRowV := ⟨fun ⟨_, e, h⟩ u hu => by subst e; rw [List.mem_singleton.1 hu]; exact h.oneCell⟩
abbrev LRows (H : Hp) (v : Value) (xs : List (List Lit)) : Prop := Sl H 1 (SlC H 3 LitC) v xs
theorem LRows.mono' {H K : Hp} {v : Value} {xs : List (List Lit)} (h : LRows H v xs) (hk : ∀ b o, H b = some o → K b = some o) : LRows K v xs :=
  Sl.mono h hk (fun _ _ ⟨u, e, h⟩ => ⟨u, e, h.mono hk (fun _ _ h => h)⟩)
theorem OwnL.lrowsK {E : Nat} {H K : Hp} {v : Value} {xs : List (List Lit)} (h : OwnL E 1 H K LRowV v xs) (c : Cmp H K) : LRows (orHp H K) v xs := (h.mono (K' := orHp H K) (orC c)).sl orL (fun _ _ h => h)
end Go.Proofs.YtojinjdobjodaaaGreat
