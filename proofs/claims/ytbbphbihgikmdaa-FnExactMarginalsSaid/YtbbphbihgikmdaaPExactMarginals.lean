/- The statement FnExactMarginals: the law returns true for all arguments. Conditions: none. -/
import Derived.Test.YtbbphbihgikmdaaWlmg
import Derived.Test.YtbbphbihgikmdaaPty
namespace Go.Proofs.Ytbbphbihgikmdaa
open Go Go.ChangeShapes Go.WideShapes Go.ChangeAt Go.RowKit
set_option maxRecDepth 100000 in
theorem lawMg_lifted (os : Os) (started : os.Started) (H : Type) (enc : TypeId × Value → H) :
    ReturnsInHanded {} Try.checked os 5 .any (Rows.fnExactMarginalsSpec.pre6 enc Try.prog Try.f5 Rows.fnExactMarginalsRow.domain false) (Rows.fnExactMarginalsSpec.post enc Try.prog Try.f5 false true false false) := by
  refine returnsInHanded_of_change_sized (C := Try.checked) Try.own started (by kernel_rfl) Try.func5
    (ChangeSpec.witness6 (enc := enc) (C := Try.checked) false ⟨#[], #[.agg #[.slice none 0 0, .slice none 0 0]], []⟩ 8 (by kernel_rfl) (by kernel_rfl) (by kernel_rfl) (by kernel_rfl)) ?_
  intro W base args ds gs before hval0 hW _ hsz0 _
  have hsz : (DataW.weightsEach Try.prog (Try.f5.params.toList ++ Rows.fnExactMarginalsSpec.plain.varTypes Try.prog) (ds ++ gs)).all (· ≤ reachBytes) = true := hsz0
  have hval : ∀ (j : Nat) t v, Try.f5.params[j]? = some t → args[j]? = some v → Value.okWide Try.prog W .any base t v := hval0
  have hW' := hW
  obtain ⟨p, q, hA0, hV, rfl, _, _⟩ := hW
  have hA : DataW.TrodAll enc Try.prog W 0 (fun _ => true) true Try.f5.params.toList args.toList ds p := hA0
  rw [Try.params5] at hA hval hsz
  obtain ⟨v0, d0, rfl, rfl, h0⟩ := trodAll_one hA
  obtain ⟨rfl, rfl⟩ := trodVars_none hV
  obtain ⟨m0, a0, b0, rfl, s0a, s0b⟩ := open_mod modT25 (hval 0 25 v0 rfl rfl) h0 (wtEach hsz 0 25 d0 rfl rfl)
  refine (lawMg_ok m0 s0a s0b W (fun K hK => ?_)).mono fun e W' he => ?_
  · simp only [List.mem_cons, List.not_mem_nil, or_false, or_self] at hK
    subst hK; exact agree_all W
  · cases e with
    | returned r =>
      obtain ⟨h4, _, _, _, h5⟩ := he
      subst h5
      exact ⟨_, rfl, post_true Try.laidOut (by rw [Try.params5]; intro t ht; revert t; decide +kernel) rfl (by kernel_rfl) Try.underlying4 hW' h4 rfl rfl rfl⟩
    | panicked c => exact he.elim
    | outgrown => exact he.elim
theorem fnExactMarginals_holds : Rows.FnExactMarginalsSaid :=
  OpenClaim.holds_of_wide 5 Try.f5 rfl rfl rfl rfl rfl rfl rfl ⟨rfl, rfl, rfl, rfl, rfl⟩ rfl rfl rfl rfl rfl (by kernel_rfl) Try.func5 (by kernel_rfl)
    (of_decide_eq_true (by kernel_rfl)) (by unfold Func.isWrapper; first | (rw [if_pos (by decide +kernel)]; kernel_rfl) | (rw [if_neg (by decide +kernel)]; exact ⟨rfl, rfl⟩))
    (fun os started H enc _ => lawMg_lifted os started H enc)
end Go.Proofs.Ytbbphbihgikmdaa
