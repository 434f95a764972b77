/- The iterator's side of a loop over a function: what it carries for its caller. Conditions: none. -/
import Derived.Test.YtojinjdobjodaaaGreatRdr
import Derived.Test.YtojinjdobjodaaaGreatPureQ
namespace Go.Proofs.YtojinjdobjodaaaGreat
open Go
set_option linter.unusedSimpArgs false
set_option linter.unusedVariables false
/-- A loop, its invariant a word on the frame and the world. -/
theorem loopS {A : Type} {P : Program} {R : Option Nat} {Q : Post} {body : Code} (J : A → Prop) (mu : A → Nat) (S : A → Act → World → Prop)
    (round : ∀ x, J x → ∀ a w, S x a w → body.wpIn (FW R) 0 P (Exit.then (fun a w => ∃ x', mu x' < mu x ∧ J x' ∧ S x' a w) Q) a w) : ∀ x a w, J x → S x a w → (Code.loop body).wpIn (FW R) 0 P Q a w := by
  have key : ∀ m x a w, mu x = m → J x → S x a w → (Code.loop body).wpIn (FW R) 0 P Q a w := by
    intro m x a w _ hJ hS
    refine wpIn_loop (I := fun a w => ∃ x, J x ∧ S x a w)
      (μ := fun a w => Classical.epsilon fun m => (∃ x, mu x = m ∧ J x ∧ S x a w) ∧ ∀ x, J x → S x a w → m ≤ mu x) ⟨x, hJ, hS⟩ ?_
    intro a w hI
    have hmin : ∃ m, (∃ x, mu x = m ∧ J x ∧ S x a w) ∧ ∀ x, J x → S x a w → m ≤ mu x := by
      have aux : ∀ k, (∃ x, mu x = k ∧ J x ∧ S x a w) → ∃ m, (∃ x, mu x = m ∧ J x ∧ S x a w) ∧ ∀ x, J x → S x a w → m ≤ mu x := by
        intro k
        induction k using Nat.strongRecOn with
        | _ k ih =>
          intro hk
          by_cases hlow : ∃ x, mu x < k ∧ J x ∧ S x a w
          · obtain ⟨x, h1, h2⟩ := hlow
            exact ih (mu x) h1 ⟨x, rfl, h2⟩
          · exact ⟨k, hk, fun x h1 h2 => Nat.le_of_not_lt fun h4 => hlow ⟨x, h4, h1, h2⟩⟩
      obtain ⟨x, hx⟩ := hI
      exact aux (mu x) ⟨x, rfl, hx⟩
    obtain ⟨⟨x, hm, hJ, hS⟩, hle⟩ := Classical.epsilon_spec hmin
    refine wpIn_mono (round x hJ a w hS) ?_
    intro e a' w' hq
    cases e with
    | normal =>
      obtain ⟨x', hlt, hJ', hS'⟩ := hq
      refine ⟨⟨x', hJ', hS'⟩, ?_⟩
      have hmin' : ∃ m, (∃ x, mu x = m ∧ J x ∧ S x a' w') ∧ ∀ x, J x → S x a' w' → m ≤ mu x := by
        have aux : ∀ k, (∃ x, mu x = k ∧ J x ∧ S x a' w') → ∃ m, (∃ x, mu x = m ∧ J x ∧ S x a' w') ∧ ∀ x, J x → S x a' w' → m ≤ mu x := by
          intro k
          induction k using Nat.strongRecOn with
          | _ k ih =>
            intro hk
            by_cases hlow : ∃ x, mu x < k ∧ J x ∧ S x a' w'
            · obtain ⟨x, h1, h2⟩ := hlow
              exact ih (mu x) h1 ⟨x, rfl, h2⟩
            · exact ⟨k, hk, fun x h1 h2 => Nat.le_of_not_lt fun h4 => hlow ⟨x, h4, h1, h2⟩⟩
        exact aux (mu x') ⟨x', rfl, hJ', hS'⟩
      have h4 := (Classical.epsilon_spec hmin').2 x' hJ' hS'
      exact Nat.lt_of_le_of_lt h4 (hm ▸ hlt)
    | exit id => exact hq
    | goto l => exact hq
    | ret => exact hq
    | panic c => exact hq
    | outgrown => exact hq
  exact fun x a w => key _ x a w rfl
theorem kc_loopX {A : Type} {P : Program} {nt : Nat} {B : World} {df : List Deferred} {R : Option Nat} {Q : Post} {ims L : List Hp} {G : Env} {body : Code} (Xf : A → Side) (J : A → Prop) (mu : A → Nat) (Lf : A → List Hp) (Gf : A → Env) (x0 : A) {Gx : Env}
    (hx : Pick G Gx) (hg : Pick G (Gf x0)) (hl : L = Lf x0) (h0 : J x0)
    (round : ∀ x, J x → KC ⟨P, nt, B, Xf x, false, df, R⟩ (Exit.then (fun a w => ∃ x', mu x' < mu x ∧ J x' ∧ Fit (nt, df) (Gf x' ++ Gx) a ∧ St B (Xf x') ims (Lf x') w) Q) ims (Lf x) body (Gf x ++ Gx)) :
    KC ⟨P, nt, B, Xf x0, false, df, R⟩ Q ims L (.loop body) G := fun a w hf hs => by
  subst hl
  exact loopS J mu (fun x a w => Fit (nt, df) (Gf x ++ Gx) a ∧ St B (Xf x) ims (Lf x) w) (fun x hJ a w ⟨h1, h2⟩ => round x hJ a w h1 h2) x0 a w h0 ⟨(hg.app hx).fit hf, hs⟩
theorem kq_roundX {A : Type} {P : Program} {nt : Nat} {B : World} {X : Side} {df : List Deferred} {R : Option Nat} {ims L : List Hp} {G : Env} {Xf : A → Side} {J : A → Prop} {mu : A → Nat} {Lf : A → List Hp} {Gf : A → Env} {x : A} {Gx : Env} {ims0 L' L0 : List Hp} (x' : A) (hX : X = Xf x')
    (hlt : mu x' < mu x) (hJ : J x') (hg : Pick G (Gf x')) (hx : Pick G Gx) (hl : L0 = Lf x') [i : AllIn ims0 ims] [t : TakeL L0 L L'] :
    KQ ⟨P, nt, B, X, false, df, R⟩ ims L G (fun a w => ∃ x', mu x' < mu x ∧ J x' ∧ Fit (nt, df) (Gf x' ++ Gx) a ∧ St B (Xf x') ims0 (Lf x') w) :=
  fun a w hf hs' => ⟨x', hlt, hJ, (hg.app hx).fit hf, by subst hl hX; exact (hs'.perm t.t).weak (i := i) (List.sublist_append_left _ _)⟩

/-! ### Calls that carry the caller's word -/
/-- The word of the caller, over what is the iterator's elsewhere (Kr) and here (D). -/
def jr (Kr : Hp) (j : (Nat → Prop) → World → Prop) : (Nat → Prop) → World → Prop := fun D w => (∀ b, Kr b ≠ none → b < w.heap.size) ∧ j (fun b => Kr b ≠ none ∨ D b) w
structure JK (j : (Nat → Prop) → World → Prop) : Prop where ok : JOk j
theorem jr_ok {Kr : Hp} {j : (Nat → Prop) → World → Prop} (h : JK j) : JOk (jr Kr j) := fun {D D' w w'} hj hs he hio hd =>
  ⟨fun b hb => Nat.lt_of_lt_of_le (hj.1 b hb) hs, h.ok hj.2 hs (fun b hb hn => he b hb (fun hd => hn (.inr hd))) hio (fun b hb => by
    rcases hb with hb | hb
    · exact ⟨.inl (.inl hb), Nat.lt_of_lt_of_le (hj.1 b hb) hs⟩
    · exact ⟨(hd b hb).1.imp .inr id, (hd b hb).2⟩)⟩
def sj (Kr : Hp) (j : (Nat → Prop) → World → Prop) (h : JK j) : Side := .it (jr Kr j) (jr_ok h)
/-- How such a call ends. -/
def ResJ (w : World) (Kr : Hp) (imsO L0 : List Hp) (phi : Value → List Hp → ((Nat → Prop) → World → Prop) → Prop) : Ending → World → Prop
  | .returned v, w' => w.heap.size ≤ w'.heap.size ∧ Io w w' ∧ Agree Kr w' ∧ (∀ I ∈ imsO, Agree I w') ∧ ∃ L1 j, (∀ H ∈ L1, Agree H w' ∧ Apart H Kr ∧ ∀ I ∈ imsO, Apart H I) ∧ L1.Pairwise Apart ∧
      JK j ∧ j (fun b => Kr b ≠ none ∨ ∃ H ∈ L1, H b ≠ none) w' ∧ phi v L1 j
  | _, _ => False
def SpecJ (P : Program) (f : FuncId) (args : List Value) (Kr : Hp) (imsO L0 : List Hp) (j : (Nat → Prop) → World → Prop) (phi : Value → List Hp → ((Nat → Prop) → World → Prop) → Prop) : Prop :=
  ∀ w, (∀ H ∈ L0, Agree H w ∧ Apart H Kr ∧ ∀ I ∈ imsO, Apart H I) → L0.Pairwise Apart → Agree Kr w → (∀ I ∈ imsO, Agree I w) → j (fun b => Kr b ≠ none ∨ ∃ H ∈ L0, H b ≠ none) w → Calls P f args.toArray w (ResJ w Kr imsO L0 phi)
theorem specJ_of {P : Program} {f : FuncId} {fn : Func} {c : Code} {vs : List Value} {n : Nat} {Kr : Hp} {imsO L0 : List Hp} {j : (Nat → Prop) → World → Prop} {phi : Value → List Hp → ((Nat → Prop) → World → Prop) → Prop} (hj : JK j)
    (hf : P.funcs[f]? = some fn) (hb : fn.body = some c) (hn : fn.ntmps = n) (hle : Nat.ble vs.length n = true)
    (h : ∀ B, KC ⟨P, n, B, sj Kr j hj, false, [], none⟩ (bodyPostM (FW none) 0 P fn (ResJ B Kr imsO L0 phi)) (Kr :: imsO) L0 c (pars 0 vs)) : SpecJ P f vs Kr imsO L0 j phi := fun w hL hp hK hO hjw => by
  refine calls_of_FW (R := none) (n := 0) (callsIn_of_wp_marks hf hb trivial ?_ rfl)
  rw [hn]
  refine h w _ w (fit_pars (Nat.le_of_ble_eq_true hle)) ⟨Nat.le_refl _, fun _ _ _ => rfl, fun I hI => ?_, fun H hH => ⟨(hL H hH).1, fun _ _ => .inr trivial, fun I hI => ?_⟩, hp, Io.refl _, ?_, Nat.zero_le _⟩
  · cases hI with
    | head => exact hK
    | tail _ hI => exact hO I hI
  · cases hI with
    | head => exact (hL H hH).2.1
    | tail _ hI => exact (hL H hH).2.2 I hI
  · refine jr_ok hj ⟨fun b hb => ?_, hjw⟩ (Nat.le_refl _) (fun _ _ _ => rfl) (Io.refl _) (fun b hb => ?_)
    · cases hh : Kr b with
      | none => exact absurd hh hb
      | some o => exact hK.lt hh
    · rcases hb with ⟨H, hH, hb⟩ | ⟨hB, H, hH, hb⟩
      · refine ⟨.inl ⟨H, hH, hb⟩, ?_⟩
        cases hh : H b with
        | none => exact absurd hh hb
        | some o => exact (hL H hH).1.lt hh
      · exfalso
        have hA : Agree H w := by
          cases hH with
          | head => exact hK
          | tail _ hH => exact hO H hH
        cases hh : H b with
        | none => exact hb hh
        | some o => exact absurd (hA.lt hh) (Nat.not_lt.2 hB)
section rets
variable {P : Program} {n : Nat} {B : World} {ims L : List Hp} {G : Env} {fn : Func} {Kr : Hp} {imsO L0 : List Hp} {phi : Value → List Hp → ((Nat → Prop) → World → Prop) → Prop} {j : (Nat → Prop) → World → Prop} {hj : JK j}
/-- L1: what is given back. -/
theorem kq_retJ {v : Value} (hr : ∀ a : Act, Fit (n, []) G a → ∀ w, St B (sj Kr j hj) ims L w → (results fn a.tmps).run P w = .ok v w) (L1 : List Hp) {L' : List Hp} [t : TakeL L1 L L'] [i : AllIn (Kr :: imsO) ims] (hp : phi v L1 j) :
    KQ ⟨P, n, B, sj Kr j hj, false, [], none⟩ ims L G (bodyPostM (FW none) 0 P fn (ResJ B Kr imsO L0 phi) .ret) := fun a w hF hS => by
  show LeavesInM (FW none) 0 P fn a.tmps (ResJ B Kr imsO L0 phi) a.defers .returning w
  rw [show a.defers = [] from hF.defers]
  have h2 := hS.perm t.t
  refine ⟨v, hr a hF w hS, hS.size, hS.io, hS.im Kr (i.all _ (.head _)), fun I hI => hS.im I (i.all _ (.tail _ hI)), L1, j, fun H hH => ?_, (List.pairwise_append.1 h2.nd).1, hj, ?_, hp⟩
  · have ho := h2.own H (List.mem_append_left _ hH)
    exact ⟨ho.1, ho.2.2 Kr (i.all _ (.head _)), fun I hI => ho.2.2 I (i.all _ (.tail _ hI))⟩
  · have hjw : jr Kr j (dm B ims L) w := hS.j
    refine hj.ok hjw.2 (Nat.le_refl _) (fun _ _ _ => rfl) (Io.refl _) (fun b hb => ?_)
    rcases hb with hb | ⟨H, hH, hb⟩
    · exact ⟨.inl (.inl hb), hjw.1 b hb⟩
    · refine ⟨.inl (.inr (.inl ⟨H, t.t.mem_iff.2 (List.mem_append_left _ hH), hb⟩)), ?_⟩
      cases hh : H b with
      | none => exact absurd hh hb
      | some o => exact (h2.own H (List.mem_append_left _ hH)).1.lt hh
theorem kq_retJ1 {t : Nat} {v : Value} (hr : fn.results = #[.tmp t]) (hv : look t G = some v) (L1 : List Hp) {L' : List Hp} [k : TakeL L1 L L'] [i : AllIn (Kr :: imsO) ims] (hp : phi v L1 j) :
    KQ ⟨P, n, B, sj Kr j hj, false, [], none⟩ ims L G (bodyPostM (FW none) 0 P fn (ResJ B Kr imsO L0 phi) .ret) :=
  kq_retJ (fun a hF w _ => by rw [results_tmp hr, (hF.get t v hv).2]) L1 hp
theorem kq_retJ0 (hr : fn.results = #[]) (L1 : List Hp) {L' : List Hp} [k : TakeL L1 L L'] [i : AllIn (Kr :: imsO) ims] (hp : phi (.tuple #[]) L1 j) :
    KQ ⟨P, n, B, sj Kr j hj, false, [], none⟩ ims L G (bodyPostM (FW none) 0 P fn (ResJ B Kr imsO L0 phi) .ret) :=
  kq_retJ (fun a hF w _ => by simp [results, hr]) L1 hp
end rets
/-- Behind such a call, or behind yield: L0 has become L1, the caller's word has turned to j'. -/
theorem St.afterJ {B : World} {Kr : Hp} {j j' : (Nat → Prop) → World → Prop} {hj : JK j} {ims imsO Ks L0 L' L1 : List Hp} {w w' : World} (h : St B (sj Kr j hj) ims (L0 ++ L') w) (hi : ∀ I ∈ Kr :: imsO, I ∈ ims) (hK : ∀ K ∈ Ks, K ∈ ims)
    (hs : w.heap.size ≤ w'.heap.size) (hio : Io w w') (aK : Agree Kr w') (aO : ∀ I ∈ imsO, Agree I w') (aKs : ∀ K ∈ Ks, Agree K w') (aL : ∀ H ∈ L', Agree H w')
    (h1 : ∀ H ∈ L1, Agree H w' ∧ (∀ I ∈ Ks ++ (Kr :: imsO), Apart H I) ∧ ∀ M ∈ L', Apart H M) (hp : L1.Pairwise Apart) (hj' : JK j') (hjw : j' (fun b => Kr b ≠ none ∨ (∃ H ∈ L1, H b ≠ none) ∨ dm B (Ks ++ (Kr :: imsO)) L' b) w') :
    St B (sj Kr j' hj') (Ks ++ (Kr :: imsO)) (L1 ++ L') w' := by
  have himem : ∀ I, I ∈ Ks ++ (Kr :: imsO) → I ∈ ims := fun I hI => (List.mem_append.1 hI).elim (hK I) (hi I)
  have hag : ∀ I, I ∈ Ks ++ (Kr :: imsO) → Agree I w' := fun I hI => by
    rcases List.mem_append.1 hI with hI | hI
    · exact aKs I hI
    · cases hI with
      | head => exact aK
      | tail _ hI => exact aO I hI
  refine ⟨Nat.le_trans h.size hs, fun b _ hx => absurd trivial hx, hag, fun H hH => ?_, ?_, h.io.trans hio, ⟨fun b hb => ?_, ?_⟩, Nat.zero_le _⟩
  · refine ⟨?_, fun _ _ => .inr trivial, fun I hI => ?_⟩
    · rcases List.mem_append.1 hH with hH | hH
      · exact (h1 H hH).1
      · exact aL H hH
    · rcases List.mem_append.1 hH with hH | hH
      · exact (h1 H hH).2.1 I hI
      · exact (h.own H (List.mem_append_right _ hH)).2.2 I (himem I hI)
  · exact List.pairwise_append.2 ⟨hp, (List.pairwise_append.1 h.nd).2.1, fun H hH M hM => (h1 H hH).2.2 M hM⟩
  · cases hh : Kr b with
    | none => exact absurd hh hb
    | some o => exact aK.lt hh
  · refine hj'.ok hjw (Nat.le_refl _) (fun _ _ _ => rfl) (Io.refl _) (fun b hb => ?_)
    rcases hb with hb | hb
    · refine ⟨.inl (.inl hb), ?_⟩
      cases hh : Kr b with
      | none => exact absurd hh hb
      | some o => exact aK.lt hh
    · refine ⟨.inl ?_, dm_lt (B := B) hag (L := L1 ++ L') (fun H hH => ?_) hb⟩
      · rcases hb with ⟨H, hH, hb⟩ | hb
        · rcases List.mem_append.1 hH with hH | hH
          · exact .inr (.inl ⟨H, hH, hb⟩)
          · exact .inr (.inr (.inl ⟨H, hH, hb⟩))
        · exact .inr (.inr (.inr hb))
      · rcases List.mem_append.1 hH with hH | hH
        · exact (h1 H hH).1
        · exact aL H hH
/-- All that is the iterator's, but for L0: as one heaplet. -/
theorem St.restJ {B : World} {Kr : Hp} {j : (Nat → Prop) → World → Prop} {hj : JK j} {ims L0 L' : List Hp} {w : World} (h : St B (sj Kr j hj) ims (L0 ++ L') w) (hi : Kr ∈ ims) :
    ∃ K2 : Hp, (∀ b, K2 b ≠ none ↔ (Kr b ≠ none ∨ dm B ims L' b)) ∧ Agree K2 w ∧ ∀ H ∈ L0, Apart H K2 := by
  have hlt : ∀ b, (Kr b ≠ none ∨ dm B ims L' b) → b < w.heap.size := fun b hb => by
    rcases hb with hb | hb
    · cases hh : Kr b with
      | none => exact absurd hh hb
      | some o => exact (h.im Kr hi).lt hh
    · exact dm_lt (B := B) h.im (fun H hH => (h.own H (List.mem_append_right _ hH)).1) hb
  obtain ⟨K2, h1, h2⟩ := cont_ex (w := w) hlt
  refine ⟨K2, h1, h2, fun H hH b => ?_⟩
  by_cases hb : H b = none
  · exact .inl hb
  · right
    cases hk : K2 b with
    | none => rfl
    | some o =>
      exfalso
      rcases (h1 b).1 (by rw [hk]; simp) with h3 | ⟨M, hM, h3⟩ | ⟨_, I, hI, h3⟩
      · exact h3 (((h.own H (List.mem_append_left _ hH)).2.2 Kr hi b).resolve_left hb)
      · exact h3 (((List.pairwise_append.1 h.nd).2.2 H hH M hM b).resolve_left hb)
      · exact h3 (((h.own H (List.mem_append_left _ hH)).2.2 I hI b).resolve_left hb)
theorem sub_of {H K : Hp} {w : World} (h : Agree H w) (k : Agree K w) (hd : ∀ b, H b ≠ none → K b ≠ none) : ∀ b o, H b = some o → K b = some o := fun b o hb => by
  cases hk : K b with
  | none => exact absurd hk (hd b (by rw [hb]; simp))
  | some x => rw [← agree_cmp h k b o x hb hk]
section calls
variable {P : Program} {nt : Nat} {B : World} {df : List Deferred} {R : Option Nat} {ops : Array Oper} {Q : Post} {ims L : List Hp} {G : Env} {fl : List Bool} {rest : List Oper} {d ty : Nat} {pos : String} {af : Array Edge} {Kr : Hp} {imsO : List Hp} {j : (Nat → Prop) → World → Prop} {hj : JK j}
theorem kl_callJ {f : Operand} {xs : List Operand} {ats : Array Nat} {g : Nat} {cap : Array Value} {vs : List Value} {L0 L' : List Hp} {phi : Value → List Hp → ((Nat → Prop) → World → Prop) → Prop} [hb : FnC P g] (Ks : List Hp)
    (hf : ev G f = some (.func (.func g) #[] cap)) (ha : evs G xs = some vs) (hs : ∀ Kr2, (∀ b o, Kr b = some o → Kr2 b = some o) → (∀ K ∈ Ks, ∀ b o, K b = some o → Kr2 b = some o) → SpecJ P g (vs ++ cap.toList) Kr2 imsO L0 j phi) [hF : TakeL L0 L L'] [hi : AllIn (Kr :: imsO) ims] [hk : AllIn Ks ims] (hfr : ∀ K ∈ Ks, Fr B K)
    (h : ∀ v L1 j' (hj' : JK j'), phi v L1 j' → KL ⟨P, nt, B, sj Kr j' hj', false, df, R⟩ false ops Q (Ks ++ (Kr :: imsO)) (L1 ++ L') fl.tail rest ((d, v) :: G)) (hlt : Nat.blt d nt = true := by rfl) :
    KL ⟨P, nt, B, sj Kr j hj, false, df, R⟩ false ops Q ims L fl (⟨some d, .call ⟨.value f, xs.toArray, ats⟩, ty, pos, af, none⟩ :: rest) G := fun a w hFt hS0 => by
  unfold wpSeq
  rw [if_pos (by simp [Region.wanted])]
  refine .inr ⟨fun e => (by cases e), ?_⟩
  have hrun : (execOp a.eval ⟨some d, .call ⟨.value f, xs.toArray, ats⟩, ty, pos, af, none⟩).run P w = .ok (.enter g (vs ++ cap.toList).toArray) w := by
    have h1 : xs.map a.eval = vs := hFt.evs ha
    simp only [execOp, resolve, hFt.ev hf, Deferred.ofValue, Sem.run_bind, Sem.run_pure, Result.andThen_ok, invoke, List.map_toArray, h1]
    rw [hb.run]
    simp
  unfold Oper.wp
  rw [hrun]
  have hS := hS0.perm hF.t
  obtain ⟨K2, k1, k2, k3⟩ := hS.restJ (hj := hj) (hi.all _ (.head _))
  have hKr := sub_of (hS.im Kr (hi.all _ (.head _))) k2 (fun b hb => (k1 b).2 (.inl hb))
  have hjw : jr Kr j (dm B ims (L0 ++ L')) w := hS.j
  refine (hs K2 hKr (fun K hK => sub_of (hS.im K (hk.all K hK)) k2 (fun b hb => (k1 b).2 (.inr (.inr ⟨(hfr K hK).1 b hb, K, hk.all K hK, hb⟩)))) w (fun H hH => ⟨(hS.own H (List.mem_append_left _ hH)).1, k3 H hH, fun I hI => (hS.own H (List.mem_append_left _ hH)).2.2 I (hi.all _ (.tail _ hI))⟩) (List.pairwise_append.1 hS.nd).1 k2 (fun I hI => hS.im I (hi.all _ (.tail _ hI))) ?_).mono fun e w' he => ?_
  · refine hj.ok hjw.2 (Nat.le_refl _) (fun _ _ _ => rfl) (Io.refl _) (fun b hb => ?_)
    rcases hb with hb | ⟨H, hH, hb⟩
    · have hb' := (k1 b).1 hb
      refine ⟨.inl ?_, ?_⟩
      · rcases hb' with hb' | ⟨H, hH, hb'⟩ | hb'
        · exact .inl hb'
        · exact .inr (.inl ⟨H, List.mem_append_right _ hH, hb'⟩)
        · exact .inr (.inr hb')
      · cases hh : K2 b with
        | none => exact absurd hh hb
        | some o => exact k2.lt hh
    · refine ⟨.inl (.inr (.inl ⟨H, List.mem_append_left _ hH, hb⟩)), ?_⟩
      cases hh : H b with
      | none => exact absurd hh hb
      | some o => exact (hS.own H (List.mem_append_left _ hH)).1.lt hh
  · cases e with
    | returned v =>
      obtain ⟨h1, h2, h3, h4, L1, j', h5, h6, h7, h8, h9⟩ := he
      have hag : ∀ M : Hp, Agree M w → (∀ b, M b ≠ none → K2 b ≠ none) → Agree M w' := fun M hM hd b o hb => h3 b o (sub_of hM k2 hd b o hb)
      have apM : ∀ M : Hp, Agree M w → (∀ b, M b ≠ none → K2 b ≠ none) → ∀ H ∈ L1, Apart H M := fun M _ hd H hH b => by
        rcases (h5 H hH).2.1 b with h | h
        · exact .inl h
        · right
          cases hm : M b with
          | none => rfl
          | some o => exact absurd h (hd b (by rw [hm]; simp))
      have hst : St B (sj Kr j' h7) (Ks ++ (Kr :: imsO)) (L1 ++ L') w' := hS.afterJ (hj := hj) (hj' := h7) (fun I hI => hi.all I hI) (fun K hK => hk.all K hK) h1 h2 (fun b o hb => h3 b o (hKr b o hb)) h4
        (fun K hK => hag K (hS.im K (hk.all K hK)) (fun b hb => (k1 b).2 (.inr (.inr ⟨(hfr K hK).1 b hb, K, hk.all K hK, hb⟩))))
        (fun H hH => hag H (hS.own H (List.mem_append_right _ hH)).1 (fun b hb => (k1 b).2 (.inr (.inl ⟨H, hH, hb⟩))))
        (fun H hH => ⟨(h5 H hH).1, fun I hI => by
          rcases List.mem_append.1 hI with hI | hI
          · exact apM I (hS.im I (hk.all I hI)) (fun b hb => (k1 b).2 (.inr (.inr ⟨(hfr I hI).1 b hb, I, hk.all I hI, hb⟩))) H hH
          · cases hI with
            | head => exact apM Kr (hS.im Kr (hi.all _ (.head _))) (fun b hb => (k1 b).2 (.inl hb)) H hH
            | tail _ hI => exact (h5 H hH).2.2 I hI, fun M hM => apM M (hS.own M (List.mem_append_right _ hM)).1 (fun b hb => (k1 b).2 (.inr (.inl ⟨M, hM, hb⟩))) H hH⟩) h6 (h7.ok h8 (Nat.le_refl _) (fun _ _ _ => rfl) (Io.refl _) (fun b hb => by
          have key : ∀ b, K2 b ≠ none → b < w'.heap.size := fun b hb => by
            cases hh : K2 b with
            | none => exact absurd hh hb
            | some o => exact h3.lt hh
          rcases hb with hb | ⟨H, hH, hb⟩ | hb
          · have := (k1 b).2 (.inl hb); exact ⟨.inl (.inl this), key b this⟩
          · refine ⟨.inl (.inr ⟨H, hH, hb⟩), ?_⟩
            cases hh : H b with
            | none => exact absurd hh hb
            | some o => exact (h5 H hH).1.lt hh
          · have : K2 b ≠ none := by
              refine (k1 b).2 (.inr ?_)
              rcases hb with hb | ⟨hB, I, hI, hb⟩
              · exact .inl hb
              · refine .inr ⟨hB, I, ?_, hb⟩
                rcases List.mem_append.1 hI with hI | hI
                · exact hk.all I hI
                · exact hi.all I hI
            exact ⟨.inl (.inl this), key b this⟩))
      exact ⟨St B (sj Kr j' h7) (Ks ++ (Kr :: imsO)) (L1 ++ L'), .inr ⟨hst, fun e => by cases e⟩, h v L1 j' h7 h9 _ w' (hFt.put (by simpa [Nat.blt_eq, Cx.m] using hlt)) hst⟩
    | panicked c => exact he
    | outgrown => exact he.elim
end calls
/-! ### Yield -/
/-- What is left of a region, seen from where rounds begin. -/
def KI (C : Cx) (ops : Array Oper) (Q : Post) (ims L : List Hp) (l : List Oper) (G : Env) : Prop := ∀ a w, Fit C.m G a → St C.B C.X ims L w → wpListIn (FW C.R) 0 C.P ops Q l a w
section ki
variable {C : Cx} {Q : Post} {ops : Array Oper} {ims L : List Hp} {G : Env} {rest : List Oper} {d ty : Nat} {pos : String} {af : Array Edge}
theorem kc_regI {id : Nat} {l : List Oper} (h : KI C l.toArray Q ims L l G) : KC C Q ims L (.region id l.toArray false) G := fun a w hf hs => wpIn_region_lit (h a w hf hs)
theorem ki_nil (h : KQ C ims L G (Q .normal)) : KI C ops Q ims L [] G := fun a w hf hs => h a w hf hs
theorem ki_y {op : Op} {v : Value} (hd : ∀ c, op ≠ .defer c) (hr : ∀ (r : Operand → Value) w, Ev G r → St C.B C.X ims L w → (execOp r ⟨some d, op, ty, pos, af, none⟩).run C.P w = .ok (.value v) w) (h : KI C ops Q ims L rest ((d, v) :: G)) (hlt : Nat.blt d C.n = true) :
    KI C ops Q ims L (⟨some d, op, ty, pos, af, none⟩ :: rest) G := fun a w hf hs => by
  unfold wpListIn
  rw [if_pos (by simp [Region.wanted])]
  refine opIn_of hd ?_
  unfold Oper.wp
  rw [hr a.eval w hf.toEv hs]
  exact h _ w (hf.put (by simpa [Nat.blt_eq, Cx.m] using hlt)) hs
theorem ki_as {x : Operand} {v : Value} (hx : ev G x = some v) (h : KI C ops Q ims L rest ((d, v) :: G)) (hlt : Nat.blt d C.n = true := by rfl) : KI C ops Q ims L (⟨some d, .assign x, ty, pos, af, none⟩ :: rest) G :=
  ki_y (fun _ e => by cases e) (fun r w hr _ => by simp [go_sem, hr _ _ hx]) h hlt
theorem ki_ld {H : Hp} {p v : Value} {vs : List Value} {x : Operand} {T : Nat} [hT : OneC C.P T] [hi : In H ims] (hx : ev G x = some p) (hp : At H p (v :: vs)) (h : KI C ops Q ims L rest ((d, v) :: G)) (hlt : Nat.blt d C.n = true := by rfl) :
    KI C ops Q ims L (⟨some d, .load T x, ty, pos, af, none⟩ :: rest) G :=
  ki_y (fun _ e => by cases e) (fun r w hr hs => by
    have hat := hp
    obtain ⟨b, o, cs, T', fz, rfl, _⟩ := hp
    have hc : w.cell? ⟨b, o, none⟩ = some v := cell_at (hs.im H hi.mem) hat (j := 0) (u := v) rfl
    simp [go_sem, hr _ _ hx, Instr.loadAt, loadVar, OneC.run, hc]) h hlt
theorem ki_ldB {x : Operand} {T b j E : Nat} {u : Value} {cs : List Value} {F : List Value → List Hp} [hT : OneC C.P T] [hF : BoxF b cs E L F] (hx : ev G x = some (.pointer (some ⟨b, j, none⟩))) (hc : cs[j]? = some u)
    (h : KI C ops Q ims L rest ((d, u) :: G)) (hlt : Nat.blt d C.n = true := by rfl) : KI C ops Q ims L (⟨some d, .load T x, ty, pos, af, none⟩ :: rest) G :=
  ki_y (fun _ e => by cases e) (fun r w hr hs => by
    have hA := (hs.own _ (hF.u cs).mem).1 b _ (sing_self _ _)
    have hcell : w.cell? ⟨b, j, none⟩ = some u := by simp [World.cell?, hA, hc]
    simp [go_sem, hr _ _ hx, Instr.loadAt, loadVar, OneC.run, hcell]) h hlt
end ki
theorem ki_yield {P : Program} {nt : Nat} {B : World} {df : List Deferred} {Q : Post} {ops : Array Oper} {ims imsO L : List Hp} {G : Env} {rest : List Oper} {d ty l n : Nat} {pos : String} {af : Array Edge} {Kr Hx : Hp} {xs : List (List Int)}
    {J : Nat → (Nat → Prop) → World → Prop} {Jx : (Nat → Prop) → World → Prop} {hJ : ∀ n, JK (J n)} (hJx : JK Jx) {f x : Operand} {ats : Array Nat} {v : Value} (hR : Rounds P l imsO xs J Jx)
    (hf : ev G f = some (.func (.yield l) #[] #[])) (hx : ev G x = some v) (hn : n < xs.length) [hi : AllIn (Kr :: imsO) ims] [hL : In Hx L] (hv : Ints Hx v (xs.getD n []))
    (h1 : KI ⟨P, nt, B, sj Kr (J (n + 1)) (hJ _), false, df, none⟩ ops Q (Kr :: imsO) L rest ((d, .bool true) :: G)) (h2 : KI ⟨P, nt, B, sj Kr Jx hJx, false, df, none⟩ ops Q (Kr :: imsO) L rest ((d, .bool false) :: G)) (hlt : Nat.blt d nt = true := by rfl) :
    KI ⟨P, nt, B, sj Kr (J n) (hJ n), false, df, none⟩ ops Q ims L (⟨some d, .call ⟨.value f, #[x], ats⟩, ty, pos, af, none⟩ :: rest) G := fun a w hF hS => by
  unfold wpListIn
  rw [if_pos (by simp [Region.wanted])]
  obtain ⟨K2, k1, k2, _⟩ := St.restJ (hj := hJ n) (L0 := []) (L' := L) hS (hi.all _ (.head _))
  have hjw : jr Kr (J n) (dm B ims L) w := hS.j
  have hsub : ∀ M ∈ L, ∀ b o, M b = some o → K2 b = some o := fun M hM => sub_of (hS.own M hM).1 k2 (fun b hb => (k1 b).2 (.inr (.inl ⟨M, hM, hb⟩)))
  have hKr := sub_of (hS.im Kr (hi.all _ (.head _))) k2 (fun b hb => (k1 b).2 (.inl hb))
  obtain ⟨fn, tmps, assign, body, hy, hround⟩ := hR n hn _ w K2 v hjw.2 k1 k2 (hv.mono (hsub Hx hL.mem) (fun _ _ h => h))
  refine ⟨fun _ _ => trivial, ?_⟩
  rw [Oper.semAt_eq _ _ _ (fun _ e => by cases e)]
  have hrun : (execOp a.eval ⟨some d, .call ⟨.value f, #[x], ats⟩, ty, pos, af, none⟩).run P w = .ok (.round l fn tmps assign body) w := by
    simp only [execOp, resolve, hF.ev hf, Deferred.ofValue, Sem.run_bind, Sem.run_pure, Result.andThen_ok, invoke]
    simpa [hF.ev hx] using hy
  rw [hrun]
  refine ⟨fun e => (by cases e), hround.mono fun e W' he => ?_⟩
  obtain ⟨g1, g2, g3, g4, g5⟩ := he
  have fin : ∀ (j' : (Nat → Prop) → World → Prop) (hj' : JK j'), j' (fun b => Kr b ≠ none ∨ dm B ims L b) W' → St B (sj Kr j' hj') (Kr :: imsO) L W' := fun j' hj' hw => by
    have := St.afterJ (hj := hJ n) (L0 := []) (L' := L) (L1 := []) (Ks := []) (hj' := hj') (imsO := imsO) hS (fun I hI => hi.all I hI) (fun _ h => by cases h) g1 g2 (fun b o hb => g3 b o (hKr b o hb)) g4 (fun _ h => by cases h)
      (fun H hH b o hb => g3 b o (hsub H hH b o hb)) (fun _ h => by cases h) List.Pairwise.nil (hj'.ok hw (Nat.le_refl _) (fun _ _ _ => rfl) (Io.refl _) (fun b hb => by
        have hb2 : K2 b ≠ none := by
          refine (k1 b).2 ?_
          rcases hb with hb | ⟨_, h, _⟩ | hb
          · exact .inl hb
          · cases h
          · rcases hb with hb | ⟨hB, I, hI, hb⟩
            · exact .inr (.inl hb)
            · exact .inr (.inr ⟨hB, I, hi.all I hI, hb⟩)
        refine ⟨.inl ((k1 b).1 hb2), ?_⟩
        cases hh : K2 b with
        | none => exact absurd hh hb2
        | some o => exact g3.lt hh))
    simpa using this
  rcases g5 with ⟨rfl, g5⟩ | ⟨rfl, g5⟩
  · exact h1 _ W' (hF.put (by simpa [Nat.blt_eq, Cx.m] using hlt)) (fin _ (hJ _) g5)
  · exact h2 _ W' (hF.put (by simpa [Nat.blt_eq, Cx.m] using hlt)) (fin _ hJx g5)
theorem sj_eq {Kr : Hp} {J : Nat → (Nat → Prop) → World → Prop} {hJ : ∀ n, JK (J n)} {a b : Nat} (h : a = b) : sj Kr (J a) (hJ a) = sj Kr (J b) (hJ b) := by subst h; rfl
/-! ### All tuples, in order -/
def tupL : List Int → List (List Int)
  | [] => [[]]
  | d :: ds => (valsI d).flatMap (fun v => (tupL ds).map (fun r => v :: r))
theorem flat_len {A B : Type} (f : A → List B) (m : Nat) : ∀ xs : List A, (∀ x ∈ xs, (f x).length = m) → (xs.flatMap f).length = m * xs.length
  | [], _ => by simp
  | x :: xs, h => by
    rw [List.flatMap_cons, List.length_append, h x (.head _), flat_len f m xs (fun y hy => h y (.tail _ hy)), List.length_cons, Nat.mul_succ]; omega
theorem flat_at {A B : Type} (f : A → List B) (m : Nat) (da : A) (db : B) : ∀ (xs : List A) (k i : Nat), (∀ x ∈ xs, (f x).length = m) → k < xs.length → i < m → (xs.flatMap f).getD (m * k + i) db = (f (xs.getD k da)).getD i db
  | [], k, i, _, h, _ => absurd h (Nat.not_lt_zero k)
  | x :: xs, k, i, h, hk, hi => by
    have hx := h x (.head _)
    cases k with
    | zero =>
      rw [List.flatMap_cons]
      simp only [Nat.mul_zero, Nat.zero_add, List.getD_cons_zero]
      rw [List.getD_eq_getElem?_getD, List.getElem?_append_left (by omega), ← List.getD_eq_getElem?_getD]
    | succ k =>
      rw [List.flatMap_cons, List.getD_cons_succ, ← flat_at f m da db xs k i (fun y hy => h y (.tail _ hy)) (by simpa using hk) hi]
      rw [List.getD_eq_getElem?_getD, List.getElem?_append_right (by rw [hx, Nat.mul_succ]; omega), ← List.getD_eq_getElem?_getD]
      congr 1
      rw [hx, Nat.mul_succ]; omega
theorem tup_len (d : Int) (ds : List Int) : (tupL (d :: ds)).length = (tupL ds).length * (valsI d).length := by
  rw [tupL]; exact flat_len _ _ _ (fun _ _ => by simp)
theorem tup_at (d : Int) (ds : List Int) {k i : Nat} (hk : k < (valsI d).length) (hi : i < (tupL ds).length) : (tupL (d :: ds)).getD ((tupL ds).length * k + i) [] = (valsI d).getD k 0 :: (tupL ds).getD i [] := by
  rw [tupL, flat_at _ (tupL ds).length 0 [] _ k i (fun _ _ => by simp) hk hi]
  simp [List.getD_eq_getElem?_getD, hi]
end Go.Proofs.YtojinjdobjodaaaGreat
