/- The card FnComponentCountCard: the law returns true for all arguments, the library's table as the program's text lays it. Conditions: none. -/
import Derived.Test.YtiilanckbocifaaDoorWfcc
import Derived.Test.YtiilanckbocifaaDoorPdo
import Derived.Test.YtiilanckbocifaaDoorCards
import Derived.Test.YtiilanckbocifaaDoorTie
import Derived.SevenTiedAt
namespace Go.Proofs.YtiilanckbocifaaDoor
open Go Go.ChangeShapes Go.WideShapes Go.ChangeAt Go.RowKit
set_option maxRecDepth 100000 in
theorem lawFnCc_lifted (os : Os) (started : os.Started) (H : Type) (enc : TypeId × Value → H) :
    ReturnsInHanded {} Tryd.checked os 3 .any (fun w args => (Rows.fnComponentCountSpec.pre enc Tryd.prog Tryd.f3 [] false w args ∧ laidMetH Tryd.prog laidT w) ∧ sizedMet enc Tryd.prog Tryd.f3 (OpenSpec.ofChange Rows.fnComponentCountSpec) false w args) (Rows.fnComponentCountSpec.post enc Tryd.prog Tryd.f3 false true false false) := by
  refine returnsInHanded_of_change_and (C := Tryd.checked) (X := fun w _ => laidMetH Tryd.prog laidT w) (fun _ _ _ hh h => h.of_heap hh) Tryd.own started (by kernel_rfl) Tryd.func3
    (ChangeSpec.witness_shaped (enc := enc) (C := Tryd.checked) (os := os) (X := fun w _ => laidMetH Tryd.prog laidT w) false (World.doorLaid Tryd.prog 400 os) #[.slice none 0 0] 8 rfl (World.shaped_of_RefB (by kernel_rfl) (by kernel_rfl)) (by kernel_rfl) (by kernel_rfl) (by kernel_rfl) (door_met os _)) ?_
  intro W base args ds gs before hval0 hW _ hsz0 hL _
  have hsz : (DataW.weightsEach Tryd.prog (Tryd.f3.params.toList ++ Rows.fnComponentCountSpec.plain.varTypes Tryd.prog) (ds ++ gs)).all (· ≤ reachBytes) = true := hsz0
  have hval : ∀ (j : Nat) t v, Tryd.f3.params[j]? = some t → args[j]? = some v → Value.okWide Tryd.prog W .any base t v := hval0
  have hW' := hW
  obtain ⟨p, q, hA0, hV, rfl, _, _⟩ := hW
  have hA : DataW.TrodAll enc Tryd.prog W 0 (fun _ => true) true Tryd.f3.params.toList args.toList ds p := hA0
  rw [Tryd.params3] at hA hval hsz
  obtain ⟨v0, d0, rfl, rfl, h0⟩ := trodAll_one hA
  obtain ⟨rfl, rfl⟩ := trodVars_none hV
  obtain ⟨x0, s0⟩ := open_bytesA Tryd.underlying22 Tryd.underlying5 (by kernel_rfl) (of_decide_eq_true (by kernel_rfl)) (hval 0 22 v0 rfl rfl) h0 (wtEach hsz 0 22 d0 rfl rfl)
  refine (lawFnCc_ok x0 s0 (of_laid hL) W (fun K hK => ?_)).mono fun e W' he => ?_
  · simp only [List.mem_cons, List.not_mem_nil, or_false, or_self] at hK
    subst hK; exact agree_all W
  · cases e with
    | returned r =>
      obtain ⟨h4, _, _, _, h5⟩ := he
      subst h5
      exact ⟨_, rfl, post_true Tryd.laidOut (by rw [Tryd.params3]; intro t ht; revert t; decide +kernel) rfl (by kernel_rfl) Tryd.underlying4 hW' h4 rfl rfl rfl⟩
    | panicked c => exact he.elim
    | outgrown => exact he.elim
theorem fnComponentCount_row : Rows.FnComponentCountSaid :=
  OpenClaim.holds_of_wide 3 Tryd.f3 rfl rfl rfl rfl rfl rfl rfl ⟨rfl, rfl, rfl, rfl, rfl⟩ rfl rfl rfl rfl rfl (by kernel_rfl) Tryd.func3 (by kernel_rfl)
    (of_decide_eq_true (by kernel_rfl)) (by unfold Func.isWrapper; first | (rw [if_pos (by decide +kernel)]; kernel_rfl) | (rw [if_neg (by decide +kernel)]; exact ⟨rfl, rfl⟩))
    (fun os started H enc _ => lawFnCc_lifted os started H enc)
theorem fnComponentCount_holds : Rows.FnComponentCountCardSaid :=
  Claim7.holds_tied_plain_at .later [] [.data, .data] true (true, "d6a3c9fbc482f68768da983e37bf65fa550595da2f44f60028a8535674e6ce97") false
    fnComponentCount_row (fun _ h => by cases h) (by kernel_rfl) (fun _ h => by cases h) fnComponentCount_row_tie rfl ⟨rfl, rfl⟩ (by kernel_rfl) rfl
    (fun f fn hf hfn => by
      obtain rfl : f = 3 := Option.some.inj ((show Tryd.prog.funcNamed "loop.example/constraintsolver/laws.FnComponentCount" = some 3 by kernel_rfl).symm.trans hf) |>.symm
      obtain rfl : fn = Tryd.f3 := (Option.some.inj (Tryd.func3.symm.trans hfn)).symm
      exact ⟨by kernel_rfl, fun j t ht => by
        rw [Tryd.params3] at ht
        have hm : t ∈ [22] := by simpa using Array.mem_of_getElem? ht
        have hall : ([22].all fun u => !Tryd.prog.wantsStandIn u) = true := by kernel_rfl
        exact (show Tryd.prog.wantsStandIn t = false by simpa using List.all_eq_true.1 hall t hm)⟩)
    (by kernel_rfl)
end Go.Proofs.YtiilanckbocifaaDoor
