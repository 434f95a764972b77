/- A scope in which the run jumps back to one label. Conditions: none. -/
import Derived.Test.YtkfioalfofoikaaGreatTri
namespace Go.Proofs.YtkfioalfofoikaaGreat
open Go
set_option linter.unusedSimpArgs false
set_option linter.unusedVariables false
section steps
variable {P : Program} {b : Frame} {a : Act} {k : List Item} {cs : List Frame} {w : World} {Q : Exit → Act → World → Prop}
theorem stepS_scope {c : Code} : step P (lone (b.atR a (.code (.scope c) :: k)) cs w) = .next (lone (b.atR a (.code c :: .inScope c :: k)) cs w) :=
  step_lone_go (by simp [stepG, stepG.exec, Frame.atR])
theorem stepS_inScope {c : Code} : step P (lone (b.atR a (.inScope c :: k)) cs w) = .next (lone (b.atR a k) cs w) :=
  step_lone_go (by simp [stepG, stepG.exec, Frame.atR])
/-- As Q; by a goto to label l: J; by any other goto: no way out. -/
def jmp (l : Nat) (J : Act → World → Prop) (Q : Exit → Act → World → Prop) : Exit → Act → World → Prop
  | .goto l', a, w => l' = l ∧ J a w
  | e, a, w => Q e a w
theorem wpIn_scope {F : Fence} {n : Nat} {c rest : Code} (l : Nat) (I : Nat → Act → World → Prop) (hf : findLabel c l = some rest)
    (first : c.wpIn F n P (jmp l (fun a w => ∃ j, I j a w) Q) a w) (pass : ∀ j a w, I j a w → rest.wpIn F n P (jmp l (fun a' w' => ∃ i, i < j ∧ I i a' w') Q) a w) : (Code.scope c).wpIn F n P Q a w := by
  intro b k cs hro hb hr
  have hg : gotoIn l (.inScope c :: k) = some (.code rest :: .inScope c :: k) := by simp [gotoIn, hf]
  have h0 : (lone (b.atR a (.code (.scope c) :: k)) cs w).fenced P F := fenced_calm hb hr rfl
  have key : ∀ j a w, I j a w → ∃ e a' w', Q e a' w' ∧ ArrivesIn (Machine.fenced P F) P (lone (b.atR a (.code rest :: .inScope c :: k)) cs w) b k cs e a' w' := by
    intro j
    induction j using Nat.strongRecOn with
    | _ j ih =>
      intro a w hJ
      obtain ⟨e, a₁, w₁, hq, harr⟩ := pass j a w hJ b (.inScope c :: k) cs hro hb hr
      cases e with
      | normal => exact ⟨.normal, a₁, w₁, hq, StepsIn.trans harr (.one (fenced_calm hb hr rfl) stepS_inScope)⟩
      | exit id =>
        have hx : exitTo id (.inScope c :: k) = exitTo id k := by simp [exitTo]
        exact ⟨.exit id, a₁, w₁, hq, fun k' hk => harr.1 k' (by rw [hx]; exact hk), fun hr' hk => harr.2 hr' (by rw [hx]; exact hk)⟩
      | goto l' =>
        obtain ⟨rfl, i, hlt, hJ'⟩ := hq
        obtain ⟨e₂, a₂, w₂, hq₂, harr₂⟩ := ih i hlt a₁ w₁ hJ'
        exact ⟨e₂, a₂, w₂, hq₂, .of_steps (harr.1 _ hg) harr₂⟩
      | ret => exact ⟨_, a₁, w₁, hq, harr⟩
      | panic ch => exact ⟨_, a₁, w₁, hq, harr⟩
      | outgrown => exact ⟨_, a₁, w₁, hq, harr⟩
  obtain ⟨e, a₁, w₁, hq, harr⟩ := first b (.inScope c :: k) cs hro hb hr
  cases e with
  | normal => exact ⟨.normal, a₁, w₁, hq, .head h0 stepS_scope (StepsIn.trans harr (.one (fenced_calm hb hr rfl) stepS_inScope))⟩
  | exit id =>
    have hx : exitTo id (.inScope c :: k) = exitTo id k := by simp [exitTo]
    exact ⟨.exit id, a₁, w₁, hq, fun k' hk => .head h0 stepS_scope (harr.1 k' (by rw [hx]; exact hk)), fun hr' hk => let ⟨k₁, h1, h2⟩ := harr.2 hr' (by rw [hx]; exact hk); ⟨k₁, h1, .head h0 stepS_scope h2⟩⟩
  | goto l' =>
    obtain ⟨rfl, i, hJ'⟩ := hq
    obtain ⟨e₂, a₂, w₂, hq₂, harr₂⟩ := key i a₁ w₁ hJ'
    exact ⟨e₂, a₂, w₂, hq₂, .of_steps (.head h0 stepS_scope (harr.1 _ hg)) harr₂⟩
  | ret => exact ⟨_, a₁, w₁, hq, .of_steps (.one h0 stepS_scope) harr⟩
  | panic ch => exact ⟨_, a₁, w₁, hq, .of_steps (.one h0 stepS_scope) harr⟩
  | outgrown => exact ⟨_, a₁, w₁, hq, .of_steps (.one h0 stepS_scope) harr⟩
end steps
section codes
variable {C : Cx} {Q : Post} {ims L : List Hp} {G : Env}
/-- What holds at every jump: a state, its slots, its frozen heaplets; nothing is owned. -/
def AtL (C : Cx) {A : Type} (J : A → Prop) (Kf : A → Hp) (Gf : A → Env) (ims : List Hp) (Gx : Env) (p : A → Prop) (a : Act) (w : World) : Prop := ∃ x, p x ∧ J x ∧ Fit C.m (Gf x ++ Gx) a ∧ St C.B C.X (Kf x :: ims) [] w
theorem kc_scope {A : Type} (l : Nat) {c R : Code} (hf : findLabel c l = some (.seq .skip R)) (J : A → Prop) (mu : A → Nat) (Kf : A → Hp) (Gf : A → Env) {Gx : Env} (_hx : Pick G Gx)
    (first : (∀ {ims' L' : List Hp} {G' : Env} (x : A), J x → Pick G' (Gf x) → Pick G' Gx → AllIn (Kf x :: ims) ims' → KC C (jmp l (AtL C J Kf Gf ims Gx (fun _ => True)) Q) ims' L' R G') → KC C (jmp l (AtL C J Kf Gf ims Gx (fun _ => True)) Q) ims L c G)
    (pass : ∀ x, J x → KC C (jmp l (AtL C J Kf Gf ims Gx (fun y => mu y < mu x)) Q) (Kf x :: ims) [] R (Gf x ++ Gx)) : KC C Q ims L (.scope c) G := fun a w hF hS => by
  have jm : ∀ {J1 J2 : Act → World → Prop}, (∀ a w, J1 a w → J2 a w) → ∀ e a w, jmp l J1 Q e a w → jmp l J2 Q e a w := fun h12 e a w h => by
    cases e with
    | goto l' => exact ⟨h.1, h12 _ _ h.2⟩
    | normal => exact h
    | exit _ => exact h
    | ret => exact h
    | panic _ => exact h
    | outgrown => exact h
  refine wpIn_scope l (fun n a w => AtL C J Kf Gf ims Gx (fun x => mu x = n) a w) hf ?_ (fun n a w h => ?_)
  · refine wpIn_mono (first (fun {ims' L' G'} x hJ hg hx hi a w hf' hs => ?_) a w hF hS) (jm fun a w ⟨x, _, h⟩ => ⟨mu x, x, rfl, h⟩)
    exact wpIn_mono (pass x hJ a w ((hg.app hx).fit hf') (hs.weak (i := hi) (List.nil_sublist _))) (jm fun a w ⟨x, _, h⟩ => ⟨x, trivial, h⟩)
  · obtain ⟨x, hm, hJ, hf', hs⟩ := h
    exact wpIn_mono (kc_seq (kc_skipQ (kq_code (pass x hJ))) a w hf' hs) (jm fun a w ⟨y, hy, h⟩ => ⟨mu y, by omega, y, rfl, h⟩)
theorem kc_goto {l : Nat} (h : KQ C ims L G (Q (.goto l))) : KC C Q ims L (.goto l) G := fun a w hf hs => wpIn_goto (h a w hf hs)
theorem kc_label {l : Nat} (h : KQ C ims L G (Q .normal)) : KC C Q ims L (.label l) G := fun a w hf hs => wpIn_label (h a w hf hs)
theorem kq_jump {A : Type} {l : Nat} {J : A → Prop} {Kf : A → Hp} {Gf : A → Env} {ims0 : List Hp} {Gx : Env} {p : A → Prop} (x : A) (hp : p x) (hJ : J x) (hg : Pick G (Gf x)) (hx : Pick G Gx) [i : AllIn (Kf x :: ims0) ims] :
    KQ C ims L G (fun a w => l = l ∧ AtL C J Kf Gf ims0 Gx p a w) := fun a w hf hs => ⟨rfl, x, hp, hJ, (hg.app hx).fit hf, hs.weak (List.nil_sublist _)⟩
theorem kc_seqlab {l : Nat} {R : Code} (h : KC C Q ims L R G) : KC C Q ims L (.seq (.label l) R) G := kc_seq (kc_label (kq_code h))
end codes
end Go.Proofs.YtkfioalfofoikaaGreat
