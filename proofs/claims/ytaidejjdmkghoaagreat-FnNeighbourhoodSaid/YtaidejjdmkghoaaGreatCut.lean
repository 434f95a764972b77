/- Parts of lists that a call owns: x[:i], x[j:], append(x[:i], x[j:]...), clear of what lies behind. Conditions: none. -/
import Derived.Test.YtaidejjdmkghoaaGreatTwo
namespace Go.Proofs.YtaidejjdmkghoaaGreat
open Go
set_option linter.unusedSimpArgs false
set_option linter.unusedVariables false
/-- t is v[:i]. -/
def HeadV (v t : Value) (i : Nat) : Prop := ∃ b n c, v = .slice (some ⟨b, 0, none⟩) n c ∧ t = .slice (some ⟨b, 0, none⟩) i c
/-- u is v[j:]. -/
def TailV (k : Nat) (v u : Value) (j : Nat) : Prop := ∃ b n c, v = .slice (some ⟨b, 0, none⟩) n c ∧ u = .slice (some ⟨b, if c = j then 0 else j * k, none⟩) (n - j) (c - j)
/-- v may grow to n elements where it lies. -/
def CapV (v : Value) (n : Nat) : Prop := ∃ b m c, v = .slice (some ⟨b, 0, none⟩) m c ∧ n ≤ c
/-- u is what lies behind v, up to n elements. -/
def RestV (k : Nat) (v u : Value) (n : Nat) : Prop := ∃ b m c o, v = .slice (some ⟨b, 0, none⟩) m c ∧ n ≤ c ∧ u = .slice (some ⟨b, o, none⟩) (n - m) (c - m) ∧ (m < n → o = m * k)
section ops
variable {C : Cx} {dr : Bool} {ops : Array Oper} {Q : Post} {ims L : List Hp} {G : Env} {fl : List Bool} {rest : List Oper} {d ty : Nat} {pos : String} {af : Array Edge}
variable {A : Type} {R : Rel A} {E k : Nat} {H K : Hp} {v : Value} {xs : List A} {x y : Operand} {T k' by' : Nat} {z : Value}
end ops
end Go.Proofs.YtaidejjdmkghoaaGreat
