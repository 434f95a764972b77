/- What is owned is new where nothing of the caller's is written; calls of method values. Conditions: none. -/
import Derived.Test.YtiilanckbocifaaMat
namespace Go.Proofs.Ytiilanckbocifaa
open Go
set_option linter.unusedSimpArgs false
set_option linter.unusedVariables false
theorem kq_own {P : Program} {n : Nat} {B : World} {ims L : List Hp} {G : Env} {p : Act → World → Prop} (H : Hp) [i : In H L] (l : Liq H) (h : Fr B H → KQ ⟨P, n, B, noS, false, [], none⟩ ims L G p) : KQ ⟨P, n, B, noS, false, [], none⟩ ims L G p := fun a w hf hs =>
  h ⟨fun b hb => ((hs.own H i.mem).2.1 b hb).elim id (fun h9 => h9.elim), l⟩ a w hf hs
theorem SpecP.ims {P : Program} {f : FuncId} {args : List Value} {ims ims' : List Hp} {v : Value} (h : SpecP P f args ims v) (hs : ∀ I ∈ ims, I ∈ ims') : SpecP P f args ims' v := fun w hA => h w (fun I hI => hA I (hs I hI))
theorem MatR.rows {EH E : Nat} {H : Hp} {v : Value} {xss : List (List Int)} (h : MatR EH E encI H v xss) : Rows H v xss := by
  obtain ⟨H1, K, us, rfl, ap, hm⟩ := h
  refine hm.rows orL (fun b o hb => ?_)
  have := (ap b).resolve_right (by rw [hb]; simp)
  simp [orHp, this, hb]
theorem Mat.ofL {A B : Type} {EH E : Nat} {H K : Hp} {R : Rel B} {enc : A → Value} {v : Value} (h : OwnL EH 1 H K R v ([] : List B)) : Mat EH E enc H noHp v [] [] := by
  obtain ⟨cs, h1, _⟩ := h
  have e : cs = [] := List.eq_nil_of_length_eq_zero (by have := h1.1; simpa using this)
  subst e
  exact Mat.nil h1
section ops
variable {C : Cx} {dr : Bool} {ops : Array Oper} {Q : Post} {ims L : List Hp} {G : Env} {fl : List Bool} {rest : List Oper} {d ty : Nat} {pos : String} {af : Array Edge}
theorem kl_callPB {f : Operand} {xs : List Operand} {ats : Array Nat} {g : Nat} {bd cap : Array Value} {vs : List Value} {ims' : List Hp} {v0 : Value} [hb : FnC C.P g]
    (hf : ev G f = some (.func (.func g) bd cap)) (ha : evs G xs = some vs) (hs : SpecP C.P g (bd.toList ++ vs ++ cap.toList) ims' v0) [hi : AllGot ims' ims L]
    (h : KL C dr ops Q ims L fl.tail rest ((d, v0) :: G)) (hlt : Nat.blt d C.n = true := by rfl) (hfl : fl.headD false = false := by rfl) :
    KL C dr ops Q ims L fl (⟨some d, .call ⟨.value f, xs.toArray, ats⟩, ty, pos, af, none⟩ :: rest) G :=
  kl_act rfl hfl fun a w hF hS => by
    have hrun : (execOp a.eval ⟨some d, .call ⟨.value f, xs.toArray, ats⟩, ty, pos, af, none⟩).run C.P w = .ok (.enter g (bd.toList ++ vs ++ cap.toList).toArray) w := by
      have h1 : xs.map a.eval = vs := hF.evs ha
      simp only [execOp, resolve, hF.ev hf, Deferred.ofValue, Sem.run_bind, Sem.run_pure, Result.andThen_ok, invoke, List.map_toArray, h1]
      rw [hb.run]
      simp
    unfold Oper.wp
    rw [hrun]
    refine (hs w (fun H hH => hi.g hS H hH)).mono fun e w' he => ?_
    cases e with
    | returned v =>
      obtain ⟨h1, H, h2, h3, h4⟩ := he
      subst h4
      exact ⟨ims, L, _, .inr (fun _ u hu => hu), hF.put (by simpa [Nat.blt_eq, Cx.m] using hlt), hS.call h1, h⟩
    | panicked c => exact he
    | outgrown => exact he.elim
end ops
end Go.Proofs.Ytiilanckbocifaa
