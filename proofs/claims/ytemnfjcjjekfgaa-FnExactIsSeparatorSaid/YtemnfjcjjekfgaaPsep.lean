/- The statement on IsSeparator. Conditions: none. -/
import Derived.Test.YtemnfjcjjekfgaaWlaw
import Derived.Test.YtemnfjcjjekfgaaRow
namespace Go.Proofs.Ytemnfjcjjekfgaa
open Go Go.ChangeShapes Go.WideShapes Go.ChangeAt Go.RowKit
theorem Try.own : ownKnob Try.prog.godebug = none := by kernel_rfl
theorem Try.laidOut : laidOutB Try.prog = true := by kernel_rfl
theorem conT82 : ConT Try.prog 82 3 23 59 := ⟨⟨_, Try.underlying82, rfl⟩, by kernel_rfl, Try.underlying3, by kernel_rfl, Try.underlying23, by kernel_rfl, Try.underlying59, by kernel_rfl, of_decide_eq_true (by kernel_rfl), of_decide_eq_true (by kernel_rfl), of_decide_eq_true (by kernel_rfl)⟩
theorem modT36 : ModT Try.prog 36 34 82 3 23 59 := ⟨⟨_, Try.underlying36, rfl⟩, by kernel_rfl, Try.underlying34, by kernel_rfl, conT82⟩
set_option maxRecDepth 100000 in
theorem lawSep_lifted (os : Os) (started : os.Started) (H : Type) (enc : TypeId × Value → H) :
    ReturnsInHanded {} Try.checked os 4 .any (Rows.fnExactIsSeparatorSpec.pre6 enc Try.prog Try.f4 Rows.fnExactIsSeparatorRow.domain false) (Rows.fnExactIsSeparatorSpec.post enc Try.prog Try.f4 false true false false) := by
  refine returnsInHanded_of_change_sized (C := Try.checked) Try.own started (by kernel_rfl) Try.func4
    (ChangeSpec.witness6 (enc := enc) (C := Try.checked) false ⟨#[], #[.agg #[.slice none 0 0, .slice none 0 0], .slice none 0 0, .int .i64 0, .int .i64 0], []⟩ 8 (by kernel_rfl) (by kernel_rfl) (by kernel_rfl) (by kernel_rfl)) ?_
  intro W base args ds gs before hval0 hW _ hsz0 _
  have hsz : (DataW.weightsEach Try.prog (Try.f4.params.toList ++ Rows.fnExactIsSeparatorSpec.plain.varTypes Try.prog) (ds ++ gs)).all (· ≤ reachBytes) = true := hsz0
  have hval : ∀ (j : Nat) t v, Try.f4.params[j]? = some t → args[j]? = some v → Value.okWide Try.prog W .any base t v := hval0
  have hW' := hW
  obtain ⟨p, q, hA0, hV, rfl, _, _⟩ := hW
  have hA : DataW.TrodAll enc Try.prog W 0 (fun _ => true) true Try.f4.params.toList args.toList ds p := hA0
  rw [Try.params4] at hA hval hsz
  obtain ⟨v0, v1, v2, v3, d0, d1, d2, d3, p0, p1, p2, p3, rfl, rfl, rfl, h0, h1, h2, h3⟩ := trodAll_four hA
  obtain ⟨rfl, rfl⟩ := trodVars_none hV
  obtain ⟨m, a, b, rfl, s0, s1⟩ := open_mod modT36 (hval 0 36 v0 rfl rfl) h0 (wtEach hsz 0 36 d0 rfl rfl)
  obtain ⟨xs, s2⟩ := open_intsA Try.underlying23 Try.underlying3 (by kernel_rfl) (of_decide_eq_true (by kernel_rfl)) (hval 1 23 v1 rfl rfl) h1 (wtEach hsz 1 23 d1 rfl rfl)
  obtain ⟨u, rfl⟩ := okWide_int Try.underlying3 (hval 2 3 v2 rfl rfl)
  obtain ⟨v, rfl⟩ := okWide_int Try.underlying3 (hval 3 3 v3 rfl rfl)
  refine (lawSep_ok m xs u v s0 s1 s2 W (fun K hK => ?_)).mono fun e W' he => ?_
  · simp only [List.mem_cons, List.not_mem_nil, or_false, or_self] at hK
    subst hK; exact agree_all W
  · cases e with
    | returned r =>
      obtain ⟨h4, _, _, _, h5⟩ := he
      subst h5
      exact ⟨_, rfl, post_true Try.laidOut (by rw [Try.params4]; intro t ht; revert t; decide +kernel) rfl (by kernel_rfl) Try.underlying4 hW' h4 rfl rfl rfl⟩
    | panicked c => exact he.elim
    | outgrown => exact he.elim
theorem fnExactIsSeparator_holds : Rows.FnExactIsSeparatorSaid :=
  OpenClaim.holds_of_wide 4 Try.f4 rfl rfl rfl rfl rfl rfl rfl ⟨rfl, rfl, rfl, rfl, rfl⟩ rfl rfl rfl rfl rfl (by kernel_rfl) Try.func4 (by kernel_rfl)
    (of_decide_eq_true (by kernel_rfl)) (by unfold Func.isWrapper; first | (rw [if_pos (by decide +kernel)]; kernel_rfl) | (rw [if_neg (by decide +kernel)]; exact ⟨rfl, rfl⟩))
    (fun os started H enc _ => lawSep_lifted os started H enc)
end Go.Proofs.Ytemnfjcjjekfgaa
