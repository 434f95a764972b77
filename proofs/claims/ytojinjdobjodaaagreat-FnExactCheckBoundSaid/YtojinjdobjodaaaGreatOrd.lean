/- What is owned is new where nothing of the caller's is written; calls of method values. Conditions: none. -/
import Derived.Test.YtojinjdobjodaaaGreatMat
namespace Go.Proofs.YtojinjdobjodaaaGreat
open Go
set_option linter.unusedSimpArgs false
set_option linter.unusedVariables false
theorem kq_own {P : Program} {n : Nat} {B : World} {ims L : List Hp} {G : Env} {p : Act → World → Prop} (H : Hp) [i : In H L] (l : Liq H) (h : Fr B H → KQ ⟨P, n, B, noS, false, [], none⟩ ims L G p) : KQ ⟨P, n, B, noS, false, [], none⟩ ims L G p := fun a w hf hs =>
  h ⟨fun b hb => ((hs.own H i.mem).2.1 b hb).elim id (fun h9 => h9.elim), l⟩ a w hf hs
theorem SpecP.ims {P : Program} {f : FuncId} {args : List Value} {ims ims' : List Hp} {v : Value} (h : SpecP P f args ims v) (hs : ∀ I ∈ ims, I ∈ ims') : SpecP P f args ims' v := fun w hA => h w (fun I hI => hA I (hs I hI))
theorem MatR.rows {EH E : Nat} {H : Hp} {v : Value} {xss : List (List Int)} (h : MatR EH E encI H v xss) : Rows H v xss := by
  obtain ⟨H1, K, us, rfl, ap, hm⟩ := h
  refine hm.rows orL (fun b o hb => ?_)
  have := (ap b).resolve_right (by rw [hb]; simp)
  simp [orHp, this, hb]
section ops
variable {C : Cx} {dr : Bool} {ops : Array Oper} {Q : Post} {ims L : List Hp} {G : Env} {fl : List Bool} {rest : List Oper} {d ty : Nat} {pos : String} {af : Array Edge}
end ops
end Go.Proofs.YtojinjdobjodaaaGreat
