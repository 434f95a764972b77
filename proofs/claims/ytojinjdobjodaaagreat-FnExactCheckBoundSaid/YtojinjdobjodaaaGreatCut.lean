/- Parts of lists that a call owns: x[:i], x[j:], append(x[:i], x[j:]...), clear of what lies behind. Conditions: none. -/
import Derived.Test.YtojinjdobjodaaaGreatTwo
namespace Go.Proofs.YtojinjdobjodaaaGreat
open Go
set_option linter.unusedSimpArgs false
set_option linter.unusedVariables false
section ops
variable {C : Cx} {dr : Bool} {ops : Array Oper} {Q : Post} {ims L : List Hp} {G : Env} {fl : List Bool} {rest : List Oper} {d ty : Nat} {pos : String} {af : Array Edge}
variable {A : Type} {R : Rel A} {E k : Nat} {H K : Hp} {v : Value} {xs : List A} {x y : Operand} {T k' by' : Nat} {z : Value}
/-- An empty literal slice of elements of k cells. -/
theorem kl_bs0k (R : Rel A) {ps : List (Nat × Operand)} [hT : IsSlice C.P T E k by' z] (hp : evp G ps = some [])
    (h : ∀ v H, Fr C.B H → OwnL E k H K R v [] → KL C dr ops Q ims (H :: L) fl.tail rest ((d, v) :: G)) (hlt : Nat.blt d C.n = true := by rfl) (hfl : fl.headD false = false := by rfl) :
    KL C dr ops Q ims L fl (⟨some d, .buildSlice T 0 ps.toArray, ty, pos, af, none⟩ :: rest) G := by
  refine kl_new (v := fun b => .slice (some ⟨b, 0, none⟩) 0 0) (o := .cells #[] E) (fun r w hr => ?_) (fun b hb => h _ _ (fr_sing hb) ⟨[], ⟨by simp, by simp, .inr ⟨b, 0, #[], rfl, Nat.le_refl _, by simp [maxLen], by simp, by simp, rfl⟩⟩, fun i hi => absurd hi (Nat.not_lt_zero i)⟩) hlt hfl
  have hps := evp_run hr hp
  have key : (Instr.buildSlice T 0 ([] : List (Nat × Value)).toArray).run C.P w = .ok (.slice (some ⟨w.heap.size, 0, none⟩) 0 0) (w.alloc (.cells #[] E)) := by
    simp [Instr.buildSlice, run_underlying hT.u, sizeOf_run hT.size, Instr.fill, newRow, Array.range]
    refine congrArg (fun x => w.alloc (.cells x E)) ?_
    apply Array.eq_empty_of_size_eq_zero; simp
  simp only [execOp, Sem.run_bind, List.map_toArray, hps, key, Result.andThen_ok, Sem.run_pure]
end ops
end Go.Proofs.YtojinjdobjodaaaGreat
