/- The statement FnExactLargeNeighbourhoodSearch: the law returns true for all arguments. Conditions: none. -/
import Derived.Test.YtkfioalfofoikaaGreatWlln
import Derived.Test.YtkfioalfofoikaaGreatPty
namespace Go.Proofs.YtkfioalfofoikaaGreat
open Go Go.ChangeShapes Go.WideShapes Go.ChangeAt Go.RowKit
set_option maxRecDepth 100000 in
theorem lawLn_lifted (os : Os) (started : os.Started) (H : Type) (enc : TypeId × Value → H) :
    ReturnsInHanded {} Tryz.checked os 3 .any (Rows.fnExactLargeNeighbourhoodSearchSpec.pre6 enc Tryz.prog Tryz.f3 Rows.fnExactLargeNeighbourhoodSearchRow.domain false) (Rows.fnExactLargeNeighbourhoodSearchSpec.post enc Tryz.prog Tryz.f3 false true false false) := by
  refine returnsInHanded_of_change_sized (C := Tryz.checked) Tryz.own started (by kernel_rfl) Tryz.func3
    (ChangeSpec.witness6 (enc := enc) (C := Tryz.checked) false ⟨#[], #[.agg #[.slice none 0 0, .slice none 0 0], .slice none 0 0, .slice none 0 0, .int .i64 0], []⟩ 8 (by kernel_rfl) (by kernel_rfl) (by kernel_rfl) (by kernel_rfl)) ?_
  intro W base args ds gs before hval0 hW _ hsz0 _
  have hsz : (DataW.weightsEach Tryz.prog (Tryz.f3.params.toList ++ Rows.fnExactLargeNeighbourhoodSearchSpec.plain.varTypes Tryz.prog) (ds ++ gs)).all (· ≤ reachBytes) = true := hsz0
  have hval : ∀ (j : Nat) t v, Tryz.f3.params[j]? = some t → args[j]? = some v → Value.okWide Tryz.prog W .any base t v := hval0
  have hW' := hW
  obtain ⟨p, q, hA0, hV, rfl, _, _⟩ := hW
  have hA : DataW.TrodAll enc Tryz.prog W 0 (fun _ => true) true Tryz.f3.params.toList args.toList ds p := hA0
  rw [Tryz.params3] at hA hval hsz
  obtain ⟨v0, v1, v2, v3, d0, d1, d2, d3, p0, p1, p2, p3, rfl, rfl, rfl, h0, h1, h2, h3⟩ := trodAll_four hA
  obtain ⟨rfl, rfl⟩ := trodVars_none hV
  obtain ⟨m0, a0, b0, rfl, s0a, s0b⟩ := open_mod modT25 (hval 0 25 v0 rfl rfl) h0 (wtEach hsz 0 25 d0 rfl rfl)
  obtain ⟨x1, s1⟩ := open_intsA Tryz.underlying22 Tryz.underlying3 (by kernel_rfl) (of_decide_eq_true (by kernel_rfl)) (hval 1 22 v1 rfl rfl) h1 (wtEach hsz 1 22 d1 rfl rfl)
  obtain ⟨x2, s2⟩ := open_intsA Tryz.underlying22 Tryz.underlying3 (by kernel_rfl) (of_decide_eq_true (by kernel_rfl)) (hval 2 22 v2 rfl rfl) h2 (wtEach hsz 2 22 d2 rfl rfl)
  obtain ⟨u3, rfl⟩ := okWide_int Tryz.underlying3 (hval 3 3 v3 rfl rfl)
  refine (lawLn_ok m0 x1 x2 u3 s0a s0b s1 s2 W (fun K hK => ?_)).mono fun e W' he => ?_
  · simp only [List.mem_cons, List.not_mem_nil, or_false, or_self] at hK
    subst hK; exact agree_all W
  · cases e with
    | returned r =>
      obtain ⟨h4, _, _, _, h5⟩ := he
      subst h5
      exact ⟨_, rfl, post_true Tryz.laidOut (by rw [Tryz.params3]; intro t ht; revert t; decide +kernel) rfl (by kernel_rfl) Tryz.underlying4 hW' h4 rfl rfl rfl⟩
    | panicked c => exact he.elim
    | outgrown => exact he.elim
theorem fnExactLargeNeighbourhoodSearch_holds : Rows.FnExactLargeNeighbourhoodSearchSaid :=
  OpenClaim.holds_of_wide 3 Tryz.f3 rfl rfl rfl rfl rfl rfl rfl ⟨rfl, rfl, rfl, rfl, rfl⟩ rfl rfl rfl rfl rfl (by kernel_rfl) Tryz.func3 (by kernel_rfl)
    (of_decide_eq_true (by kernel_rfl)) (by unfold Func.isWrapper; first | (rw [if_pos (by decide +kernel)]; kernel_rfl) | (rw [if_neg (by decide +kernel)]; exact ⟨rfl, rfl⟩))
    (fun os started H enc _ => lawLn_lifted os started H enc)
end Go.Proofs.YtkfioalfofoikaaGreat
