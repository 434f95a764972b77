/- The statement FnExactNeighbourhood: the law returns true for all arguments. Conditions: none. -/
import Derived.Test.YtiilanckbocifaaWnhx
import Derived.Test.YtiilanckbocifaaPty
namespace Go.Proofs.Ytiilanckbocifaa
open Go Go.ChangeShapes Go.WideShapes Go.ChangeAt Go.RowKit
set_option maxRecDepth 100000 in
theorem lawNhx_lifted (os : Os) (started : os.Started) (H : Type) (enc : TypeId × Value → H) :
    ReturnsInHanded {} Try.checked os 5 .any (Rows.fnExactNeighbourhoodSpec.pre6 enc Try.prog Try.f5 Rows.fnExactNeighbourhoodRow.domain false) (Rows.fnExactNeighbourhoodSpec.post enc Try.prog Try.f5 false true false false) := by
  refine returnsInHanded_of_change_sized (C := Try.checked) Try.own started (by kernel_rfl) Try.func5
    (ChangeSpec.witness6 (enc := enc) (C := Try.checked) false ⟨#[], #[.agg #[.slice none 0 0, .slice none 0 0], .slice none 0 0, .slice none 0 0], []⟩ 8 (by kernel_rfl) (by kernel_rfl) (by kernel_rfl) (by kernel_rfl)) ?_
  intro W base args ds gs before hval0 hW _ hsz0 _
  have hsz : (DataW.weightsEach Try.prog (Try.f5.params.toList ++ Rows.fnExactNeighbourhoodSpec.plain.varTypes Try.prog) (ds ++ gs)).all (· ≤ reachBytes) = true := hsz0
  have hval : ∀ (j : Nat) t v, Try.f5.params[j]? = some t → args[j]? = some v → Value.okWide Try.prog W .any base t v := hval0
  have hW' := hW
  obtain ⟨p, q, hA0, hV, rfl, _, _⟩ := hW
  have hA : DataW.TrodAll enc Try.prog W 0 (fun _ => true) true Try.f5.params.toList args.toList ds p := hA0
  rw [Try.params5] at hA hval hsz
  obtain ⟨v0, v1, v2, d0, d1, d2, p0, p1, p2, rfl, rfl, rfl, h0, h1, h2⟩ := trodAll_three hA
  obtain ⟨rfl, rfl⟩ := trodVars_none hV
  obtain ⟨m0, a0, b0, rfl, s0a, s0b⟩ := open_mod modT38 (hval 0 38 v0 rfl rfl) h0 (wtEach hsz 0 38 d0 rfl rfl)
  obtain ⟨x1, s1⟩ := open_intsA Try.underlying23 Try.underlying3 (by kernel_rfl) (of_decide_eq_true (by kernel_rfl)) (hval 1 23 v1 rfl rfl) h1 (wtEach hsz 1 23 d1 rfl rfl)
  obtain ⟨x2, s2⟩ := open_intsA Try.underlying23 Try.underlying3 (by kernel_rfl) (of_decide_eq_true (by kernel_rfl)) (hval 2 23 v2 rfl rfl) h2 (wtEach hsz 2 23 d2 rfl rfl)
  refine (lawNhx_ok m0 x1 x2 s0a s0b s1 s2 W (fun K hK => ?_)).mono fun e W' he => ?_
  · simp only [List.mem_cons, List.not_mem_nil, or_false, or_self] at hK
    subst hK; exact agree_all W
  · cases e with
    | returned r =>
      obtain ⟨h4, _, _, _, h5⟩ := he
      subst h5
      exact ⟨_, rfl, post_true Try.laidOut (by rw [Try.params5]; intro t ht; revert t; decide +kernel) rfl (by kernel_rfl) Try.underlying4 hW' h4 rfl rfl rfl⟩
    | panicked c => exact he.elim
    | outgrown => exact he.elim
theorem fnExactNeighbourhood_holds : Rows.FnExactNeighbourhoodSaid :=
  OpenClaim.holds_of_wide 5 Try.f5 rfl rfl rfl rfl rfl rfl rfl ⟨rfl, rfl, rfl, rfl, rfl⟩ rfl rfl rfl rfl rfl (by kernel_rfl) Try.func5 (by kernel_rfl)
    (of_decide_eq_true (by kernel_rfl)) (by unfold Func.isWrapper; first | (rw [if_pos (by decide +kernel)]; kernel_rfl) | (rw [if_neg (by decide +kernel)]; exact ⟨rfl, rfl⟩))
    (fun os started H enc _ => lawNhx_lifted os started H enc)
end Go.Proofs.Ytiilanckbocifaa
