/- The card FnSeparatorCard: the law returns true for all arguments, the library's table as the program's text lays it. Conditions: none. -/
import Derived.Test.YtooiagkfhhfojaaDoorWfs
import Derived.Test.YtooiagkfhhfojaaDoorPdo
import Derived.Test.YtooiagkfhhfojaaDoorCards
import Derived.Test.YtooiagkfhhfojaaDoorTie
import Derived.SevenTiedAt
namespace Go.Proofs.YtooiagkfhhfojaaDoor
open Go Go.ChangeShapes Go.WideShapes Go.ChangeAt Go.RowKit
set_option maxRecDepth 100000 in
theorem lawFnSep_lifted (os : Os) (started : os.Started) (H : Type) (enc : TypeId × Value → H) :
    ReturnsInHanded {} Tryd.checked os 4 .any (fun w args => (Rows.fnSeparatorSpec.pre enc Tryd.prog Tryd.f4 [] false w args ∧ laidMetH Tryd.prog laidT w) ∧ sizedMet enc Tryd.prog Tryd.f4 (OpenSpec.ofChange Rows.fnSeparatorSpec) false w args) (Rows.fnSeparatorSpec.post enc Tryd.prog Tryd.f4 false true false false) := by
  refine returnsInHanded_of_change_and (C := Tryd.checked) (X := fun w _ => laidMetH Tryd.prog laidT w) (fun _ _ _ hh h => h.of_heap hh) Tryd.own started (by kernel_rfl) Tryd.func4
    (ChangeSpec.witness_shaped (enc := enc) (C := Tryd.checked) (os := os) (X := fun w _ => laidMetH Tryd.prog laidT w) false (World.doorLaid Tryd.prog 400 os) #[.slice none 0 0] 8 rfl (World.shaped_of_RefB (by kernel_rfl) (by kernel_rfl)) (by kernel_rfl) (by kernel_rfl) (by kernel_rfl) (door_met os _)) ?_
  intro W base args ds gs before hval0 hW _ hsz0 hL _
  have hsz : (DataW.weightsEach Tryd.prog (Tryd.f4.params.toList ++ Rows.fnSeparatorSpec.plain.varTypes Tryd.prog) (ds ++ gs)).all (· ≤ reachBytes) = true := hsz0
  have hval : ∀ (j : Nat) t v, Tryd.f4.params[j]? = some t → args[j]? = some v → Value.okWide Tryd.prog W .any base t v := hval0
  have hW' := hW
  obtain ⟨p, q, hA0, hV, rfl, _, _⟩ := hW
  have hA : DataW.TrodAll enc Tryd.prog W 0 (fun _ => true) true Tryd.f4.params.toList args.toList ds p := hA0
  rw [Tryd.params4] at hA hval hsz
  obtain ⟨v0, d0, rfl, rfl, h0⟩ := trodAll_one hA
  obtain ⟨rfl, rfl⟩ := trodVars_none hV
  obtain ⟨x0, s0⟩ := open_bytesA Tryd.underlying22 Tryd.underlying5 (by kernel_rfl) (of_decide_eq_true (by kernel_rfl)) (hval 0 22 v0 rfl rfl) h0 (wtEach hsz 0 22 d0 rfl rfl)
  refine (lawFnSep_ok x0 s0 (of_laid hL) W (fun K hK => ?_)).mono fun e W' he => ?_
  · simp only [List.mem_cons, List.not_mem_nil, or_false, or_self] at hK
    subst hK; exact agree_all W
  · cases e with
    | returned r =>
      obtain ⟨h4, _, _, _, h5⟩ := he
      subst h5
      exact ⟨_, rfl, post_true Tryd.laidOut (by rw [Tryd.params4]; intro t ht; revert t; decide +kernel) rfl (by kernel_rfl) Tryd.underlying4 hW' h4 rfl rfl rfl⟩
    | panicked c => exact he.elim
    | outgrown => exact he.elim
theorem fnSeparator_row : Rows.FnSeparatorSaid :=
  OpenClaim.holds_of_wide 4 Tryd.f4 rfl rfl rfl rfl rfl rfl rfl ⟨rfl, rfl, rfl, rfl, rfl⟩ rfl rfl rfl rfl rfl (by kernel_rfl) Tryd.func4 (by kernel_rfl)
    (of_decide_eq_true (by kernel_rfl)) (by unfold Func.isWrapper; first | (rw [if_pos (by decide +kernel)]; kernel_rfl) | (rw [if_neg (by decide +kernel)]; exact ⟨rfl, rfl⟩))
    (fun os started H enc _ => lawFnSep_lifted os started H enc)
theorem fnSeparator_holds : Rows.FnSeparatorCardSaid :=
  Claim7.holds_tied_plain_at .later [] [.data, .data] true (true, "5ab4446bf5ce3f9e5654352906d836e135902ebaf3d98344e3b30f47a9f91a6b") false
    fnSeparator_row (fun _ h => by cases h) (by kernel_rfl) (fun _ h => by cases h) fnSeparator_row_tie rfl ⟨rfl, rfl⟩ (by kernel_rfl) rfl
    (fun f fn hf hfn => by
      obtain rfl : f = 4 := Option.some.inj ((show Tryd.prog.funcNamed "loop.example/constraintsolver/laws.FnSeparator" = some 4 by kernel_rfl).symm.trans hf) |>.symm
      obtain rfl : fn = Tryd.f4 := (Option.some.inj (Tryd.func4.symm.trans hfn)).symm
      exact ⟨by kernel_rfl, fun j t ht => by
        rw [Tryd.params4] at ht
        have hm : t ∈ [22] := by simpa using Array.mem_of_getElem? ht
        have hall : ([22].all fun u => !Tryd.prog.wantsStandIn u) = true := by kernel_rfl
        exact (show Tryd.prog.wantsStandIn t = false by simpa using List.all_eq_true.1 hall t hm)⟩)
    (by kernel_rfl)
end Go.Proofs.YtooiagkfhhfojaaDoor
