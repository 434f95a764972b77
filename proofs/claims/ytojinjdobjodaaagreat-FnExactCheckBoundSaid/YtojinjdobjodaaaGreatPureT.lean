/- Components: the program's way and the reference's way; they are closed, and separation agrees with them. No program in sight. Conditions: none. -/
import Derived.Test.YtojinjdobjodaaaGreatPureN
namespace Go.Proofs.YtojinjdobjodaaaGreat
open Go
set_option linter.unusedSimpArgs false
set_option linter.unusedVariables false
/-! Connectedness. -/
section conn
variable {n : Nat} {p : Nat → Nat → Prop} {w : Nat → Prop} {v a b : Nat}
theorem Conn.lt (h : Conn n p w v b) (hv : v < n) : b < n := by cases h with | refl => exact hv | step _ _ h _ => exact h
theorem Conn.free (h : Conn n p w v b) (hv : ¬ w v) : ¬ w b := by cases h with | refl => exact hv | step _ _ _ h => exact h
theorem Conn.trans (h : Conn n p w v a) (k : Conn n p w a b) : Conn n p w v b := by
  induction k with
  | refl => exact h
  | step _ h1 h2 h3 ih => exact .step ih h1 h2 h3
theorem Conn.symm (hp : ∀ a b, p a b → p b a) (hv : v < n) (hw : ¬ w v) (h : Conn n p w v b) : Conn n p w b v := by
  induction h with
  | refl => exact .refl
  | step h1 h2 h3 h4 ih => exact Conn.trans (.step .refl (hp _ _ h2) (h1.lt hv) (h1.free hw)) ih
end conn
abbrev Cn (m : Mod) (v b : Nat) : Prop := Conn m.doms.length (fun x y => adjB m.cons x y = true) (fun _ => False) v b
theorem adj_symm (m : Mod) : ∀ a b : Nat, adjB m.cons a b = true → adjB m.cons b a = true := fun a b h => by rw [adjB_comm]; exact h
theorem Cn.symm {m : Mod} {v b : Nat} (hv : v < m.doms.length) (h : Cn m v b) : Cn m b v := Conn.symm (adj_symm m) hv (fun h => h) h
structure MaskC (m : Mod) (v : Nat) (x : Nat) : Prop where
  e : linkedI m (v : Int) 0 = (x : Int)
  lt : x < 16
  b : ∀ b, x.testBit b = true ↔ Cn m v b
theorem MaskC.pos {m : Mod} {v x : Nat} (h : MaskC m v x) : 1 ≤ x := by
  have := (h.b v).2 .refl
  refine Nat.one_le_iff_ne_zero.2 (fun e => ?_)
  subst e; simp at this
theorem MaskC.has {m : Mod} {v x b : Nat} (h : MaskC m v x) (hb : b < 4) : hasB (x : Int) (b : Int) = true ↔ Cn m v b := by
  have := h.lt
  rw [hasB_nat (by omega) (by omega), h.b]
/-! Separation. -/
end Go.Proofs.YtojinjdobjodaaaGreat
