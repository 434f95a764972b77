/- What the rows want of the program and of its table. Conditions: none. -/
import Derived.Test.YtiilanckbocifaaDoorRtab
import Derived.Test.YtiilanckbocifaaDoorPty
namespace Go.Proofs.YtiilanckbocifaaDoor
open Go Go.ChangeShapes Go.WideShapes Go.ChangeAt Go.RowKit
noncomputable def laidT : List (String × DataW Unit) := [("math/bits.deBruijn32tab", Rows.laid_math_bits_deBruijn32tab), ("math/bits.deBruijn64tab", Rows.laid_math_bits_deBruijn64tab)]
theorem gT0 : Tryd.prog.globalNamed "math/bits.deBruijn32tab" = some 0 := by kernel_rfl
theorem tT0 : (Tryd.prog.globals[0]?).map (·.type) = some 83 := by kernel_rfl
theorem gT1 : Tryd.prog.globalNamed "math/bits.deBruijn64tab" = some 1 := by kernel_rfl
theorem tT1 : (Tryd.prog.globals[1]?).map (·.type) = some 84 := by kernel_rfl
theorem door_met (os : Os) (args : Array Value) : laidMetH Tryd.prog laidT ((World.doorLaid Tryd.prog 400 os).forCall (fun _ _ => 0) ⟨#[], args, []⟩).memory :=
  laidMetH_of_parts3 (fuel := 8) (laidMet_of_run' 8 (by kernel_rfl) (by kernel_rfl)) (by kernel_rfl) (by kernel_rfl)
theorem of_laid {W : World} (h : laidMetH Tryd.prog laidT W) : At (allHp W) (.pointer (some ⟨1, 0, none⟩)) tabV := by
  rw [MakeChecks.laidMetH_plain _ _ _ (by kernel_rfl)] at h
  obtain ⟨ps, h0, _, _⟩ := h
  obtain ⟨g0, t0, cs0, f0, p0, q0, hg0, ht0, hv0, hd0, h1, _⟩ := h0
  obtain ⟨g1, t1, cs1, f1, p1, q1, hg1, ht1, hv1, hd1, h2, _⟩ := h1
  obtain rfl := Option.some.inj (tT1.symm.trans (by rw [← Option.some.inj (gT1.symm.trans hg1)] at ht1; exact ht1))
  exact at_tab gT1 hv1 (trod_tab (vs := tabL) Tryd.underlying84 Tryd.underlying5 (by kernel_rfl) (by kernel_rfl) (show DataW.trod _ Tryd.prog W 0 _ false f1 84 cs1.toList = some (.agg (tabL.map (fun v => .lit (.int .u8 v))), p1) from hd1))
end Go.Proofs.YtiilanckbocifaaDoor
