/- Literals (three cells each) in lists, and a map with one entry under a boolean key. Conditions: none. -/
import Derived.Test.YtkfioalfofoikaaGreatRdr
import Derived.Test.YtkfioalfofoikaaGreatCut
import Derived.MapKept
namespace Go.Proofs.YtkfioalfofoikaaGreat
open Go
set_option linter.unusedSimpArgs false
set_option linter.unusedVariables false
structure Lit where
  var : Int
  val : Int
  neg : Bool
theorem lit_ext {a b : Lit} : a = b ↔ a.var = b.var ∧ a.val = b.val ∧ a.neg = b.neg := by cases a; cases b; simp
instance : DecidableEq Lit := fun a b => decidable_of_iff _ lit_ext.symm
def LitC (vs : List Value) (l : Lit) : Prop := vs = [.int .i64 l.var, .int .i64 l.val, .bool l.neg]
def LitV : Rel Lit := fun _ vs l => LitC vs l
instance : RMono LitV := ⟨fun _ h => h⟩
instance : ROne LitV := ⟨fun h u hu => by
  have h : _ = _ := h
  subst h
  simp only [List.mem_cons, List.not_mem_nil, or_false] at hu
  rcases hu with rfl | rfl | rfl <;> rfl⟩
abbrev Lits (H : Hp) (v : Value) (xs : List Lit) : Prop := Sl H 3 LitC v xs
theorem OwnL.lits {E : Nat} {H K : Hp} {v : Value} {xs : List Lit} (h : OwnL E 3 H K LitV v xs) : Lits H v xs := h.sl (fun _ _ h => h) (fun _ _ h => h)
section lits
variable {C : Cx} {dr : Bool} {ops : Array Oper} {Q : Post} {ims L : List Hp} {G : Env} {fl : List Bool} {rest : List Oper}
  {d ty : Nat} {pos : String} {af : Array Edge} {T E by' : Nat} {z : Value} {x y : Operand}
end lits
/-! A map with one entry. -/
class MapBI (P : Program) (T : Nat) : Prop where
  m : ∃ K E, P.underlying T = some (.map K E) ∧ P.underlying K = some .bool ∧ (P.info? E).map (·.zero) = some (some (.int .i64 0))
section maps
variable {C : Cx} {dr : Bool} {ops : Array Oper} {Q : Post} {ims L : List Hp} {G : Env} {fl : List Bool} {rest : List Oper}
  {d ty : Nat} {pos : String} {af : Array Edge} {T : Nat} {x y u : Operand}
end maps
end Go.Proofs.YtkfioalfofoikaaGreat
