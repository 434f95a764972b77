/- Calls that take over what the caller owns and give it back changed, with new memory beside it. Conditions: none. -/
import Derived.Test.YtojinjdobjodaaaGreatMut
namespace Go.Proofs.YtojinjdobjodaaaGreat
open Go
set_option linter.unusedSimpArgs false
set_option linter.unusedVariables false

/-- How such a call ends: L0 has become L1; Ln: new memory, to be written; K: new memory that is written no more. -/
def ResT (w : World) (L0 : List Hp) (phi : Value → List Hp → List Hp → Hp → Prop) : Ending → World → Prop
  | .returned v, w' => Ext (fun b => ∃ H ∈ L0, H b ≠ none) w w' ∧ ∃ L1 Ln K, (∀ H ∈ L1, Agree H w' ∧ ∀ b, H b ≠ none → w.heap.size ≤ b ∨ ∃ K ∈ L0, K b ≠ none) ∧ (∀ H ∈ Ln, Agree H w' ∧ Fr w H) ∧ (L1 ++ Ln).Pairwise Apart ∧ (Agree K w' ∧ Fr w K ∧ ∀ H ∈ L1 ++ Ln, Apart H K) ∧ phi v L1 Ln K
  | _, _ => False
def SpecT (P : Program) (f : FuncId) (args : List Value) (L0 ims : List Hp) (phi : Value → List Hp → List Hp → Hp → Prop) : Prop :=
  ∀ w, (∀ H ∈ L0, Agree H w) → L0.Pairwise Apart → (∀ I ∈ ims, Agree I w ∧ ∀ H ∈ L0, Apart H I) → Calls P f args.toArray w (ResT w L0 phi)
theorem SpecT.mono {P : Program} {f : FuncId} {args : List Value} {L0 ims : List Hp} {p q : Value → List Hp → List Hp → Hp → Prop} (h : SpecT P f args L0 ims p) (hq : ∀ v L1 Ln K, p v L1 Ln K → q v L1 Ln K) : SpecT P f args L0 ims q :=
  fun w h1 h2 h3 => (h w h1 h2 h3).mono fun e w' he => by
    cases e with
    | returned v => obtain ⟨h1, L1, Ln, K, h2, h3, h4, h5, h6⟩ := he; exact ⟨h1, L1, Ln, K, h2, h3, h4, h5, hq _ _ _ _ h6⟩
    | panicked c => exact he
    | outgrown => exact he
theorem St.initT {w : World} {L0 ims : List Hp} (hH : ∀ H ∈ L0, Agree H w) (hp : L0.Pairwise Apart) (h : ∀ I ∈ ims, Agree I w ∧ ∀ H ∈ L0, Apart H I) : St w (.of (fun b => ∃ H ∈ L0, H b ≠ none)) ims L0 w :=
  ⟨Nat.le_refl _, fun _ _ _ => rfl, fun I hI => (h I hI).1, fun K hK => ⟨hH K hK, fun b hb => .inr ⟨K, hK, hb⟩, fun I hI => (h I hI).2 K hK⟩, hp, Io.refl _, trivial, Nat.zero_le _⟩
theorem specT_of {P : Program} {f : FuncId} {fn : Func} {c : Code} {vs : List Value} {n : Nat} {L0 ims : List Hp} {phi : Value → List Hp → List Hp → Hp → Prop}
    (hf : P.funcs[f]? = some fn) (hb : fn.body = some c) (hn : fn.ntmps = n) (hle : Nat.ble vs.length n = true)
    (h : ∀ B, KC ⟨P, n, B, .of (fun b => ∃ H ∈ L0, H b ≠ none), false, [], none⟩ (bodyPost P fn (ResT B L0 phi)) ims L0 c (pars 0 vs)) : SpecT P f vs L0 ims phi := fun w hH hp hA => by
  refine calls_of_wp hf hb ((wpIn_wide (n := 0)).1 ?_)
  rw [hn]
  exact h w _ w (fit_pars (Nat.le_of_ble_eq_true hle)) (St.initT hH hp hA)
/-- L without the heaplets of l, in any order. -/
class TakeL (l L : List Hp) (L' : outParam (List Hp)) : Prop where
  t : List.Perm L (l ++ L')
instance (L : List Hp) : TakeL [] L L := ⟨List.Perm.refl _⟩
theorem RemR.perm {H : Hp} {L L' : List Hp} (r : RemR H L L') : List.Perm L (H :: L') := by
  induction r with
  | head L => exact List.Perm.refl _
  | tail K h ih => exact (List.Perm.cons K ih).trans (List.Perm.swap _ _ _)
instance (H : Hp) (l L L1 L2 : List Hp) [r : RemH H L L1] [t : TakeL l L1 L2] : TakeL (H :: l) L L2 := ⟨r.r.perm.trans (List.Perm.cons H t.t)⟩
theorem Apart.symm {H K : Hp} (h : Apart H K) : Apart K H := fun b => (h b).symm
theorem pw_perm {L L' : List Hp} (p : List.Perm L L') (h : L.Pairwise Apart) : L'.Pairwise Apart := p.pairwise h (fun h => h.symm)
theorem St.perm {B : World} {X : Side} {ims L L' : List Hp} {w : World} (h : St B X ims L w) (p : List.Perm L L') : St B X ims L' w :=
  h.still (fun b hb => by
      rcases hb with ⟨H, hH, hb⟩ | hb
      · exact .inl ⟨H, p.mem_iff.2 hH, hb⟩
      · exact .inr hb) h.im (fun H hH => h.own H (p.mem_iff.2 hH)) (pw_perm p h.nd)
section rets
variable {P : Program} {n : Nat} {B : World} {ims L : List Hp} {G : Env} {fn : Func} {L0 : List Hp} {phi : Value → List Hp → List Hp → Hp → Prop}
/-- What a function returns that has its results in temporaries. -/
theorem kq_retT' {v : Value} (hr : ∀ a : Act, Fit (n, []) G a → ∀ w, St B (.of (fun b => ∃ H ∈ L0, H b ≠ none)) ims L w → (results fn a.tmps).run P w = .ok v w) (L1 Ln : List Hp) (K : Hp) {La L' : List Hp} [t1 : TakeL L1 L La] [t2 : TakeL Ln La L'] [gk : GotI K ims] (hf : ∀ H ∈ Ln, Fr B H) (hk : Fr B K) (hp : phi v L1 Ln K) :
    KQ ⟨P, n, B, .of (fun b => ∃ H ∈ L0, H b ≠ none), false, [], none⟩ ims L G (bodyPost P fn (ResT B L0 phi) .ret) := fun a w hF hS => by
  have h2 : St B _ ims ((L1 ++ Ln) ++ L') w := hS.perm (t1.t.trans (by rw [List.append_assoc]; exact List.Perm.append_left L1 t2.t))
  have hsub : ∀ H, H ∈ L1 ++ Ln → H ∈ (L1 ++ Ln) ++ L' := fun H h => List.mem_append_left _ h
  refine ⟨hF.defers, v, hr a hF w hS, ⟨hS.size, hS.ext, hS.io⟩, L1, Ln, K, fun H hH => ?_, fun H hH => ?_, ?_, ⟨(gk.g hS).1, hk, fun H hH => (gk.g h2).2 H (hsub H hH)⟩, hp⟩
  · have := h2.own H (hsub H (List.mem_append_left _ hH))
    exact ⟨this.1, this.2.1⟩
  · exact ⟨(h2.own H (hsub H (List.mem_append_right _ hH))).1, hf H hH⟩
  · exact (List.pairwise_append.1 h2.nd).1
theorem kq_retT0 (hr : fn.results = #[]) (L1 Ln : List Hp) (K : Hp) {La L' : List Hp} [k1 : TakeL L1 L La] [k2 : TakeL Ln La L'] [gk : GotI K ims] (hf : ∀ H ∈ Ln, Fr B H) (hk : Fr B K) (hp : phi (.tuple #[]) L1 Ln K) :
    KQ ⟨P, n, B, .of (fun b => ∃ H ∈ L0, H b ≠ none), false, [], none⟩ ims L G (bodyPost P fn (ResT B L0 phi) .ret) :=
  kq_retT' (fun a hF w _ => by simp [results, hr]) L1 Ln K hf hk hp
/-- A struct that lies in a cell. -/
theorem kq_retTC {a T b E k : Nat} {cs : List Value} {F : List Value → List Hp} [hT : AggC P T k] [hF : BoxF b cs E L F] (hr : fn.results = #[.cell a T]) (hv : look a G = some (.pointer (some ⟨b, 0, none⟩))) (hkb : Nat.beq cs.length k = true)
    (L1 Ln : List Hp) (K : Hp) {La L' : List Hp} [t1 : TakeL L1 L La] [t2 : TakeL Ln La L'] [gk : GotI K ims] (hf : ∀ H ∈ Ln, Fr B H) (hk : Fr B K) (hp : phi (.agg cs.toArray) L1 Ln K) :
    KQ ⟨P, n, B, .of (fun b => ∃ H ∈ L0, H b ≠ none), false, [], none⟩ ims L G (bodyPost P fn (ResT B L0 phi) .ret) :=
  kq_retT' (fun a' hFt w hS => by
    have hA := (hS.own _ (hF.u cs).mem).1
    have hat : At (sing b (.cells cs.toArray E (0, 0))) (.pointer (some ⟨b, 0, none⟩)) cs := At.sing (cs := cs.toArray)
    have hc := loadCells_at (P := P) hA hat
    rw [Nat.eq_of_beq_eq_true hkb] at hc
    have h1 : (loadVar T ⟨b, 0, none⟩).run P w = .ok (.agg cs.toArray) w := by
      simp only [loadVar, Sem.run_bind, Sem.run_pure, Result.andThen_ok, AggC.run, sizeOf_run hT.i, hc, if_true]
    have h2 : a'.tmps.getD a undef = .pointer (some ⟨b, 0, none⟩) := (hFt.get a _ hv).2
    simp [results, hr, asAddr]
    simp at h2
    simp [h2, h1]) L1 Ln K hf hk hp
end rets
theorem fr1 {B : World} {H : Hp} (h : Fr B H) : ∀ K ∈ [H], Fr B K := fun K hK => by rw [List.mem_singleton.1 hK]; exact h
theorem frn {B : World} : ∀ K ∈ ([] : List Hp), Fr B K := fun K hK => by cases hK
theorem frc {B : World} {H : Hp} {l : List Hp} (h : Fr B H) (t : ∀ K ∈ l, Fr B K) : ∀ K ∈ H :: l, Fr B K := fun K hK => by
  cases hK with
  | head => exact h
  | tail _ hK => exact t K hK
/-- What an argument stands on, apart from what is handed over. -/
class GotT (l : List Hp) (K : Hp) (ims L' : List Hp) : Prop where
  g : ∀ {B : World} {X : Side} {w : World}, St B X ims (l ++ L') w → Agree K w ∧ ∀ H ∈ l, Apart H K
instance (l ims L' : List Hp) : GotT l noHp ims L' := ⟨fun _ => ⟨agree_no _, fun _ _ _ => .inr rfl⟩⟩
instance (l : List Hp) (K : Hp) (ims L' : List Hp) [i : In K ims] : GotT l K ims L' := ⟨fun s => ⟨s.im K i.mem, fun H hH => (s.own H (List.mem_append_left _ hH)).2.2 K i.mem⟩⟩
instance (l : List Hp) (K : Hp) (ims L' : List Hp) [i : In K L'] : GotT l K ims L' := ⟨fun s => ⟨(s.own K (List.mem_append_right _ i.mem)).1, fun H hH => (List.pairwise_append.1 s.nd).2.2 H hH K i.mem⟩⟩
instance (l : List Hp) (K M : Hp) (ims L' : List Hp) [h : GotT l K ims L'] [k : GotT l M ims L'] : GotT l (orHp K M) ims L' := ⟨fun s => ⟨agree_or (h.g s).1 (k.g s).1, fun H hH b => by
  rcases (h.g s).2 H hH b with e | e
  · exact .inl e
  · rcases (k.g s).2 H hH b with e' | e'
    · exact .inl e'
    · exact .inr (by simp [orHp, e, e'])⟩⟩
class AllGotT (l : List Hp) (m : List Hp) (ims L' : List Hp) : Prop where
  g : ∀ {B : World} {X : Side} {w : World}, St B X ims (l ++ L') w → ∀ K ∈ m, Agree K w ∧ ∀ H ∈ l, Apart H K
instance (l ims L' : List Hp) : AllGotT l [] ims L' := ⟨fun _ _ h => by cases h⟩
instance (l : List Hp) (K : Hp) (m ims L' : List Hp) [h : GotT l K ims L'] [t : AllGotT l m ims L'] : AllGotT l (K :: m) ims L' :=
  ⟨fun s M hM => by cases hM with | head => exact h.g s | tail _ h' => exact t.g s M h'⟩
/-- Behind such a call. -/
theorem St.took {B : World} {X : Side} {ims L0 L' L1 Ln : List Hp} {w w' : World} (h : St B X ims (L0 ++ L') w) (e : Ext (fun b => ∃ H ∈ L0, H b ≠ none) w w')
    (h1 : ∀ H ∈ L1, Agree H w' ∧ ∀ b, H b ≠ none → w.heap.size ≤ b ∨ ∃ K ∈ L0, K b ≠ none) (hn : ∀ H ∈ Ln, Agree H w' ∧ Fr w H) (hp : (L1 ++ Ln).Pairwise Apart) {K : Hp} (hk : Agree K w' ∧ Fr w K ∧ ∀ H ∈ L1 ++ Ln, Apart H K) : St B X (K :: ims) (L1 ++ Ln ++ L') w' := by
  have dom : ∀ H ∈ L1 ++ Ln, Agree H w' ∧ ∀ b, H b ≠ none → w.heap.size ≤ b ∨ ∃ K ∈ L0, K b ≠ none := fun H hH => by
    rcases List.mem_append.1 hH with hH | hH
    · exact h1 H hH
    · exact ⟨(hn H hH).1, fun b hb => .inl ((hn H hH).2.1 b hb)⟩
  have other : ∀ K : Hp, Agree K w → (∀ H ∈ L0, Apart H K) → Agree K w' ∧ ∀ H ∈ L1 ++ Ln, Apart H K := fun K hK hap => by
    refine ⟨fun b o hb => ?_, fun H hH b => ?_⟩
    · rw [e.same b (hK.lt hb) (fun ⟨H, hH, hx⟩ => by
        rcases hap H hH b with h2 | h2
        · exact hx h2
        · rw [h2] at hb; cases hb)]
      exact hK b o hb
    · by_cases hb : H b = none
      · exact .inl hb
      · right
        cases hk : K b with
        | none => rfl
        | some o =>
          rcases (dom H hH).2 b hb with h2 | ⟨M, hM, hx⟩
          · exact absurd (hK.lt hk) (Nat.not_lt.2 h2)
          · rcases hap M hM b with h3 | h3
            · exact absurd h3 hx
            · rw [h3] at hk; cases hk
  have ho : ∀ K ∈ L', Agree K w' ∧ ∀ H ∈ L1 ++ Ln, Apart H K := fun K hK =>
    other K (h.own K (List.mem_append_right _ hK)).1 (fun H hH => (List.pairwise_append.1 h.nd).2.2 H hH K hK)
  have hi : ∀ I ∈ ims, Agree I w' ∧ ∀ H ∈ L1 ++ Ln, Apart H I := fun I hI =>
    other I (h.im I hI) (fun H hH => (h.own H (List.mem_append_left _ hH)).2.2 I hI)
  have freshK : ∀ M : Hp, Agree M w → Apart M K := fun M hM b => by
    by_cases hb : K b = none
    · exact .inr hb
    · left
      cases hm : M b with
      | none => rfl
      | some o => exact absurd (hM.lt hm) (Nat.not_lt.2 (hk.2.1.1 b hb))
  refine h.turn e.size (fun b hb hd => e.same b hb (fun ⟨H, hH, hx⟩ => hd (.inl ⟨H, List.mem_append_left _ hH, hx⟩))) e.io (fun b hb => ?_) (fun b hb hx => ?_) (fun I hI => ?_) (fun K hK => ?_) ?_
  · rcases hb with ⟨H, hH, hb⟩ | hb
    · rcases List.mem_append.1 hH with hH | hH
      · rcases (dom H hH).2 b hb with h2 | ⟨K, hK, hx⟩
        · exact .inr h2
        · exact .inl (.inl ⟨K, List.mem_append_left _ hK, hx⟩)
      · exact .inl (.inl ⟨H, List.mem_append_right _ hH, hb⟩)
    · obtain ⟨hB, M, hM, hb⟩ := hb
      cases hM with
      | head => exact .inr (hk.2.1.1 b hb)
      | tail _ hM => exact .inl (.inr ⟨hB, M, hM, hb⟩)
  · have hn : ¬ ∃ H ∈ L0, H b ≠ none := fun ⟨H, hH, hxx⟩ => by
      rcases (h.own H (List.mem_append_left _ hH)).2.1 b hxx with h2 | h2
      · omega
      · exact hx h2
    rw [e.same b (Nat.lt_of_lt_of_le hb h.size) hn]; exact h.ext b hb hx
  · cases hI with
    | head => exact hk.1
    | tail _ hI => exact (hi I hI).1
  · rcases List.mem_append.1 hK with hK | hK
    · refine ⟨(dom K hK).1, fun b hb => ?_, fun I hI => by
        cases hI with
        | head => exact hk.2.2 K hK
        | tail _ hI => exact (hi I hI).2 K hK⟩
      rcases (dom K hK).2 b hb with h2 | ⟨M, hM, hx⟩
      · exact .inl (Nat.le_trans h.size h2)
      · exact (h.own M (List.mem_append_left _ hM)).2.1 b hx
    · exact ⟨(ho K hK).1, (h.own K (List.mem_append_right _ hK)).2.1, fun I hI => by
        cases hI with
        | head => exact freshK K (h.own K (List.mem_append_right _ hK)).1
        | tail _ hI => exact (h.own K (List.mem_append_right _ hK)).2.2 I hI⟩
  · exact List.pairwise_append.2 ⟨hp, (List.pairwise_append.1 h.nd).2.1, fun H hH K hK => (ho K hK).2 H hH⟩
section calls
variable {C : Cx} {dr : Bool} {ops : Array Oper} {Q : Post} {ims L : List Hp} {G : Env} {fl : List Bool} {rest : List Oper} {d ty : Nat} {pos : String} {af : Array Edge}
theorem kl_callT' {od : Option Nat} {f : Operand} {xs : List Operand} {ats : Array Nat} {g : Nat} {cap : Array Value} {vs : List Value} {L0 ims' L' : List Hp} {phi : Value → List Hp → List Hp → Hp → Prop} {Gv : Value → Env} [hb : FnC C.P g]
    (hf : ev G f = some (.func (.func g) #[] cap)) (ha : evs G xs = some vs) (hs : SpecT C.P g (vs ++ cap.toList) L0 ims' phi) [hF : TakeL L0 L L'] [hi : AllGotT L0 ims' ims L']
    (hput : ∀ a v, Fit C.m G a → Fit C.m (Gv v) (a.put od v))
    (h : ∀ v L1 Ln K, phi v L1 Ln K → (∀ H ∈ Ln, Fr C.B H) → Fr C.B K → KL C dr ops Q (K :: ims) (L1 ++ Ln ++ L') fl.tail rest (Gv v)) (hfl : fl.headD false = false) (hdr : (!dr || rest.isEmpty) = true) :
    KL C dr ops Q ims L fl (⟨od, .call ⟨.value f, xs.toArray, ats⟩, ty, pos, af, none⟩ :: rest) G :=
  kl_act rfl hfl fun a w hFt hS0 => by
    have hrun : (execOp a.eval ⟨od, .call ⟨.value f, xs.toArray, ats⟩, ty, pos, af, none⟩).run C.P w = .ok (.enter g (vs ++ cap.toList).toArray) w := by
      have h1 : xs.map a.eval = vs := hFt.evs ha
      simp only [execOp, resolve, hFt.ev hf, Deferred.ofValue, Sem.run_bind, Sem.run_pure, Result.andThen_ok, invoke, List.map_toArray, h1]
      rw [hb.run]
      simp
    unfold Oper.wp
    rw [hrun]
    have hS := hS0.perm hF.t
    refine (hs w (fun H hH => (hS.own H (List.mem_append_left _ hH)).1) (List.pairwise_append.1 hS.nd).1 (fun I hI => hi.g hS I hI)).mono fun e w' he => ?_
    cases e with
    | returned v =>
      obtain ⟨h1, L1, Ln, K, h2, h3, h4, h5, h6⟩ := he
      refine ⟨K :: ims, L1 ++ Ln ++ L', _, ?_, hput a v hFt, hS.took h1 h2 h3 h4 h5, h v L1 Ln K h6 (fun H hH => ⟨fun b hb => Nat.le_trans hS.size ((h3 H hH).2.1 b hb), (h3 H hH).2.2⟩) ⟨fun b hb => Nat.le_trans hS.size (h5.2.1.1 b hb), h5.2.1.2⟩⟩
      cases dr with
      | true => left; simpa using hdr
      | false => right; intro e; cases e
    | panicked c => exact he
    | outgrown => exact he.elim
theorem kl_callT {f : Operand} {xs : List Operand} {ats : Array Nat} {g : Nat} {cap : Array Value} {vs : List Value} {L0 ims' L' : List Hp} {phi : Value → List Hp → List Hp → Hp → Prop} [hb : FnC C.P g]
    (hf : ev G f = some (.func (.func g) #[] cap)) (ha : evs G xs = some vs) (hs : SpecT C.P g (vs ++ cap.toList) L0 ims' phi) [hF : TakeL L0 L L'] [hi : AllGotT L0 ims' ims L']
    (h : ∀ v L1 Ln K, phi v L1 Ln K → (∀ H ∈ Ln, Fr C.B H) → Fr C.B K → KL C dr ops Q (K :: ims) (L1 ++ Ln ++ L') fl.tail rest ((d, v) :: G)) (hlt : Nat.blt d C.n = true := by rfl) (hfl : fl.headD false = false := by rfl) (hdr : (!dr || rest.isEmpty) = true := by rfl) :
    KL C dr ops Q ims L fl (⟨some d, .call ⟨.value f, xs.toArray, ats⟩, ty, pos, af, none⟩ :: rest) G :=
  kl_callT' hf ha hs (fun a v hFt => hFt.put (by simpa [Nat.blt_eq, Cx.m] using hlt)) h hfl hdr
/-- What is owned is written no more. -/
theorem kl_frz (H : Hp) {L' : List Hp} [r : RemH H L L'] (h : KL C false ops Q (H :: ims) L' fl rest G) (hlo : C.lo = false := by rfl) : KL C false ops Q ims L fl rest G := fun a w hf hs => by
  have h1 := h a w hf hs.rem
  refine wpSeq_false ?_ _ _ _ _ h1
  intro u hu
  rw [Cx.whi hlo] at hu ⊢; exact hu.rem
/-- The list of what is owned, written plainly. -/
class NormL (l : List Hp) (r : outParam (List Hp)) : Prop where e : l = r
instance (m r : List Hp) [h : NormL m r] : NormL ([] ++ m) r := ⟨h.e⟩
instance (a : Hp) (l m r : List Hp) [h : NormL (l ++ m) r] : NormL ((a :: l) ++ m) (a :: r) := ⟨by rw [List.cons_append, h.e]⟩
instance (l m n r : List Hp) [h : NormL (l ++ (m ++ n)) r] : NormL ((l ++ m) ++ n) r := ⟨by rw [List.append_assoc, h.e]⟩
instance (priority := low) (l : List Hp) : NormL l l := ⟨rfl⟩
theorem kl_norm {Lr : List Hp} [hn : NormL L Lr] (h : KL C dr ops Q ims Lr fl rest G) : KL C dr ops Q ims L fl rest G := by have e := hn.e; subst e; exact h
end calls
theorem kl_chg {C : Cx} {dr : Bool} {ops : Array Oper} {Q : Post} {ims L : List Hp} {G : Env} {fl : List Bool} {rest : List Oper} (L2 : List Hp) (e : L = L2) (h : KL C dr ops Q ims L2 fl rest G) : KL C dr ops Q ims L fl rest G := e ▸ h
theorem kq_take {C : Cx} {ims L : List Hp} {G : Env} {p : Act → World → Prop} (L2 : List Hp) {L' : List Hp} [t : TakeL L2 L L'] (h : KQ C ims L2 G p) : KQ C ims L G p := fun a w hf hs => h a w hf ((hs.perm t.t).weak (i := allIn_refl _) (List.sublist_append_left _ _))
theorem kc_take {C : Cx} {Q : Post} {ims L : List Hp} {G : Env} {c : Code} (L2 : List Hp) {L' : List Hp} [t : TakeL L2 L L'] (h : KC C Q ims L2 c G) : KC C Q ims L c G := fun a w hf hs => h a w hf ((hs.perm t.t).weak (i := allIn_refl _) (List.sublist_append_left _ _))
theorem kq_frz {C : Cx} {ims L : List Hp} {G : Env} {p : Act → World → Prop} (H : Hp) {L' : List Hp} [r : RemH H L L'] (h : KQ C (H :: ims) L' G p) : KQ C ims L G p := fun a w hf hs => h a w hf hs.rem
end Go.Proofs.YtojinjdobjodaaaGreat
