/- The statement FnProveBound: the law returns true for all arguments. Conditions: none. -/
import Derived.Test.YtolndgeihijlbaaGreatKProveBound8
namespace Go.Proofs.YtolndgeihijlbaaGreat
open Go Go.ChangeShapes Go.WideShapes Go.ChangeAt Go.RowKit
set_option maxRecDepth 100000 in
theorem lawFnPb_lifted (os : Os) (started : os.Started) (H : Type) (enc : TypeId × Value → H) :
    ReturnsInHanded {} Tryz.checked os 3 .any (Rows.fnProveBoundSpec.pre6 enc Tryz.prog Tryz.f3 Rows.fnProveBoundRow.domain false) (Rows.fnProveBoundSpec.post enc Tryz.prog Tryz.f3 false true false false) := by
  refine returnsInHanded_of_change_sized (C := Tryz.checked) Tryz.own started (by kernel_rfl) Tryz.func3
    (ChangeSpec.witness6 (enc := enc) (C := Tryz.checked) false ⟨#[], #[.slice none 0 0], []⟩ 8 (by kernel_rfl) (by kernel_rfl) (by kernel_rfl) (by kernel_rfl)) ?_
  intro W base args ds gs before hval0 hW _ hsz0 _
  have hsz : (DataW.weightsEach Tryz.prog (Tryz.f3.params.toList ++ Rows.fnProveBoundSpec.plain.varTypes Tryz.prog) (ds ++ gs)).all (· ≤ reachBytes) = true := hsz0
  have hval : ∀ (j : Nat) t v, Tryz.f3.params[j]? = some t → args[j]? = some v → Value.okWide Tryz.prog W .any base t v := hval0
  have hW' := hW
  obtain ⟨p, q, hA0, hV, rfl, _, _⟩ := hW
  have hA : DataW.TrodAll enc Tryz.prog W 0 (fun _ => true) true Tryz.f3.params.toList args.toList ds p := hA0
  rw [Tryz.params3] at hA hval hsz
  obtain ⟨v0, d0, rfl, rfl, h0⟩ := trodAll_one hA
  obtain ⟨rfl, rfl⟩ := trodVars_none hV
  obtain ⟨x0, s0⟩ := open_bytesA Tryz.underlying22 Tryz.underlying5 (by kernel_rfl) (of_decide_eq_true (by kernel_rfl)) (hval 0 22 v0 rfl rfl) h0 (wtEach hsz 0 22 d0 rfl rfl)
  refine (lawFnPb_ok x0 s0 W (fun K hK => ?_)).mono fun e W' he => ?_
  · simp only [List.mem_cons, List.not_mem_nil, or_false] at hK
    subst hK; exact agree_all W
  · cases e with
    | returned r =>
      obtain ⟨h4, _, _, _, h5⟩ := he
      subst h5
      exact ⟨_, rfl, post_true Tryz.laidOut (by rw [Tryz.params3]; intro t ht; revert t; decide +kernel) rfl (by kernel_rfl) Tryz.underlying4 hW' h4 rfl rfl rfl⟩
    | panicked c => exact he.elim
    | outgrown => exact he.elim
theorem fnProveBound_holds : Rows.FnProveBoundSaid :=
  OpenClaim.holds_of_wide 3 Tryz.f3 rfl rfl rfl rfl rfl rfl rfl ⟨rfl, rfl, rfl, rfl, rfl⟩ rfl rfl rfl rfl rfl (by kernel_rfl) Tryz.func3 (by kernel_rfl)
    (of_decide_eq_true (by kernel_rfl)) (by unfold Func.isWrapper; first | (rw [if_pos (by decide +kernel)]; kernel_rfl) | (rw [if_neg (by decide +kernel)]; exact ⟨rfl, rfl⟩))
    (fun os started H enc _ => lawFnPb_lifted os started H enc)
end Go.Proofs.YtolndgeihijlbaaGreat
