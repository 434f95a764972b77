/- Calls that write one heaplet of the caller's: integers in cells that held integers. Conditions: none. -/
import Derived.Test.YtiilanckbocifaaFin
namespace Go.Proofs.Ytiilanckbocifaa
open Go
set_option linter.unusedSimpArgs false
set_option linter.unusedVariables false

/-- A cell may have turned only from one integer to another. -/
def ShC (u u' : Option Value) : Prop := u' = u ∨ ∃ n n' : Int, u = some (.int .i64 n) ∧ u' = some (.int .i64 n')
theorem ShC.trans {a b c : Option Value} (h : ShC a b) (k : ShC b c) : ShC a c := by
  rcases h with rfl | ⟨n, n', rfl, rfl⟩
  · exact k
  · rcases k with rfl | ⟨m, m', h1, rfl⟩
    · exact .inr ⟨n, n', rfl, rfl⟩
    · exact .inr ⟨n, m', rfl, rfl⟩
/-- The same rows; integers may have turned. -/
def Mk (H H' : Hp) : Prop := (∀ b, H b = none → H' b = none) ∧ ∀ b cs T fz, H b = some (.cells cs T fz) → ∃ cs', H' b = some (.cells cs' T fz) ∧ cs'.size = cs.size ∧ ∀ j : Nat, ShC cs[j]? cs'[j]?
theorem Mk.refl (H : Hp) : Mk H H := ⟨fun _ h => h, fun _ cs _ _ h => ⟨cs, h, rfl, fun _ => .inl rfl⟩⟩
theorem Mk.trans {H K M : Hp} (h : Mk H K) (k : Mk K M) : Mk H M := ⟨fun b hb => k.1 b (h.1 b hb), fun b cs T fz hb => by
  obtain ⟨c1, h1, h2, h3⟩ := h.2 b cs T fz hb
  obtain ⟨c2, k1, k2, k3⟩ := k.2 b c1 T fz h1
  exact ⟨c2, k1, k2.trans h2, fun j => (h3 j).trans (k3 j)⟩⟩
theorem Mk.dom {H H' : Hp} (h : Mk H H') (b : Nat) (hb : H' b ≠ none) : H b ≠ none := fun e => hb (h.1 b e)
theorem Mk.liq {H H' : Hp} (h : Mk H H') (l : Liq H) : Liq H' := fun b o hb => by
  cases hh : H b with
  | none => rw [h.1 b hh] at hb; cases hb
  | some x =>
    obtain ⟨cs, T, rfl⟩ := l b x hh
    obtain ⟨cs', h1, _⟩ := h.2 b cs T _ hh
    rw [h1] at hb; cases hb; exact ⟨_, _, rfl⟩
theorem Mk.fr {B : World} {H H' : Hp} (h : Mk H H') (f : Fr B H) : Fr B H' := ⟨fun b hb => f.1 b (h.dom b hb), h.liq f.2⟩
def ShL (vs vs' : List Value) : Prop := vs'.length = vs.length ∧ ∀ j : Nat, ShC vs[j]? vs'[j]?
theorem Mk.at {H H' : Hp} (h : Mk H H') {p : Value} {vs : List Value} (hp : At H p vs) : ∃ vs', At H' p vs' ∧ ShL vs vs' := by
  obtain ⟨b, o, cs, T, fz, rfl, hb, hc⟩ := hp
  obtain ⟨cs', h1, h2, h3⟩ := h.2 b cs T fz hb
  have hlen : ∀ j, j < vs.length → o + j < cs'.size := fun j hj => by
    have := hc j _ (List.getElem?_eq_getElem hj)
    rw [h2]; exact (Array.getElem?_eq_some_iff.1 this).1
  refine ⟨(List.range vs.length).map (fun j => cs'.getD (o + j) undef), ⟨b, o, cs', T, fz, rfl, h1, fun j u hj => ?_⟩, by simp, fun j => ?_⟩
  · have hj' : j < vs.length := by have := (List.getElem?_eq_some_iff.1 hj).1; simpa using this
    have := (List.getElem?_eq_some_iff.1 hj).2
    simp [Array.getD, hlen j hj'] at this
    rw [Array.getElem?_eq_getElem (hlen j hj'), this]
  · by_cases hj : j < vs.length
    · have e1 : vs[j]? = cs[o + j]? := by rw [List.getElem?_eq_getElem hj, hc j _ (List.getElem?_eq_getElem hj)]
      have e2 : ((List.range vs.length).map (fun j => cs'.getD (o + j) undef))[j]? = cs'[o + j]? := by
        rw [List.getElem?_map, List.getElem?_range hj]
        simp [Array.getD, hlen j hj]
      rw [e1, e2]; exact h3 _
    · left; rw [List.getElem?_eq_none (by simpa using hj), List.getElem?_eq_none (by omega)]
theorem Mk.sl {A N : Type} {H H' : Hp} {k : Nat} {R R' : List Value → A → Prop} {v : Value} {xs : List A} (m : A → N) (h : Mk H H') (hR : ∀ vs vs' x, R vs x → ShL vs vs' → ∃ x', R' vs' x' ∧ m x' = m x) (hs : Sl H k R v xs) : ∃ xs', Sl H' k R' v xs' ∧ xs'.map m = xs.map m := by
  obtain ⟨a, c, rfl, h1, h2, h3⟩ := hs
  have each : ∀ i : Fin xs.length, ∃ x' : A, m x' = m xs[i.1] ∧ ∃ b o, a = some ⟨b, o, none⟩ ∧ ∃ vs, vs.length = k ∧ R' vs x' ∧ At H' (.pointer (some ⟨b, o + i.1 * k, none⟩)) vs := fun i => by
    obtain ⟨b, o, e, vs, l, r, t⟩ := h3 i.1 i.2
    obtain ⟨vs', t', s⟩ := h.at t
    obtain ⟨x', r', e2⟩ := hR _ _ _ r s
    exact ⟨x', e2, b, o, e, vs', s.1.trans l, r', t'⟩
  refine ⟨List.ofFn (fun i => Classical.choose (each i)), ⟨a, c, by simp, by simpa using h1, by simpa using h2, fun i hi => ?_⟩, ?_⟩
  · have := (Classical.choose_spec (each ⟨i, by simpa using hi⟩)).2
    simpa using this
  · apply List.ext_getElem
    · simp
    · intro i h4 h5
      have := (Classical.choose_spec (each ⟨i, by simpa using h5⟩)).1
      simpa using this
theorem shl_one {u : Value} {vs' : List Value} (h : ShL [u] vs') : ∃ u', vs' = [u'] ∧ (u' = u ∨ ∃ n n' : Int, u = .int .i64 n ∧ u' = .int .i64 n') := by
  obtain ⟨h1, h2⟩ := h
  match vs', h1 with
  | [u'], _ =>
    refine ⟨u', rfl, ?_⟩
    have := h2 0
    simpa [ShC] using this
theorem len_of {A N : Type} {m : A → N} {xs xs' : List A} (h : xs'.map m = xs.map m) : xs'.length = xs.length := by simpa using congrArg List.length h
theorem Mk.ints {H H' : Hp} (h : Mk H H') {v : Value} {xs : List Int} (hs : Ints H v xs) : ∃ xs', Ints H' v xs' ∧ xs'.length = xs.length := by
  obtain ⟨xs', h1, h2⟩ := h.sl (R' := IntC) (fun _ => ()) (fun vs vs' x r s => by
    unfold IntC at r; subst r
    obtain ⟨u', rfl, e | ⟨n, n', _, e⟩⟩ := shl_one s
    · exact ⟨x, by rw [e]; rfl, rfl⟩
    · exact ⟨n', by rw [e]; rfl, rfl⟩) hs
  exact ⟨xs', h1, len_of h2⟩
theorem Mk.rows {H H' : Hp} (h : Mk H H') {v : Value} {xs : List (List Int)} (hs : Rows H v xs) : ∃ xs', Rows H' v xs' ∧ xs'.map List.length = xs.map List.length :=
  h.sl List.length (fun vs vs' x r s => by
    obtain ⟨u, rfl, hu⟩ := r
    obtain ⟨u', rfl, e | ⟨n, n', e, _⟩⟩ := shl_one s
    · subst e; obtain ⟨x', h1, h2⟩ := h.ints hu; exact ⟨x', ⟨u', rfl, h1⟩, h2⟩
    · obtain ⟨a, c, e', _⟩ := hu; rw [e'] at e; cases e) hs
/-- The sizes of a constraint. -/
def conSz (c : Con) : Nat × Nat × List Nat := (c.vars.length, c.args.length, c.rows.map List.length)
theorem Mk.con {H H' : Hp} (h : Mk H H') {vs vs' : List Value} {c : Con} (hc : ConV H vs c) (s : ShL vs vs') : ∃ c', ConV H' vs' c' ∧ conSz c' = conSz c := by
  obtain ⟨a, b, r, rfl, ha, hb, hr⟩ := hc
  obtain ⟨h1, h2⟩ := s
  obtain ⟨xa, ha', la⟩ := h.ints ha
  obtain ⟨xb, hb', lb⟩ := h.ints hb
  obtain ⟨xr, hr', lr⟩ := h.rows hr
  have sl : ∀ {k : Nat} {A : Type} {R : List Value → A → Prop} {u : Value} {xs : List A} {u' : Value}, Sl H k R u xs → ShC (some u) (some u') → u' = u := fun hs hc => by
    obtain ⟨a, c, rfl, _⟩ := hs
    rcases hc with e | ⟨n, n', e, _⟩
    · simpa using e
    · simp at e
  have int : ∀ {n : Int} {u' : Value}, ShC (some (.int .i64 n)) (some u') → ∃ n', u' = .int .i64 n' := fun hc => by
    rcases hc with e | ⟨n, n', _, e⟩
    · exact ⟨_, by simpa using e⟩
    · exact ⟨n', by simpa using e⟩
  match vs', h1 with
  | [v0, v1, v2, v3, v4], _ =>
    obtain ⟨k, rfl⟩ := int (h2 0)
    have e1 := sl ha (h2 1)
    have e2 := sl hb (h2 2)
    obtain ⟨q, rfl⟩ := int (h2 3)
    have e4 := sl hr (h2 4)
    subst e1 e2 e4
    exact ⟨⟨k, xa, xb, q, xr⟩, ⟨_, _, _, rfl, ha', hb', hr'⟩, by simp only [conSz, la, lb, lr]⟩
theorem Mk.cons {H H' : Hp} (h : Mk H H') {v : Value} {xs : List Con} (hs : Cons H v xs) : ∃ xs', Cons H' v xs' ∧ xs'.map conSz = xs.map conSz :=
  h.sl conSz (fun vs vs' x r s => h.con r s) hs

/-! ### Calls -/
/-- How such a call ends: H has become H'; K: new memory. -/
def ResM (w : World) (H : Hp) (phi : Hp → Hp → Value → Prop) : Ending → World → Prop
  | .returned v, w' => Ext (fun b => H b ≠ none) w w' ∧ ∃ H' K, (∀ b, H' b ≠ none → H b ≠ none) ∧ Agree H' w' ∧ Agree K w' ∧ Fr w K ∧ phi H' K v
  | _, _ => False
def SpecM (P : Program) (f : FuncId) (args : List Value) (H : Hp) (ims : List Hp) (phi : Hp → Hp → Value → Prop) : Prop :=
  ∀ w, Agree H w → (∀ I ∈ ims, Agree I w ∧ Apart H I) → Calls P f args.toArray w (ResM w H phi)
theorem St.initM {w : World} {H : Hp} {ims : List Hp} (hH : Agree H w) (h : ∀ I ∈ ims, Agree I w ∧ Apart H I) : St w (.of (fun b => H b ≠ none)) ims [H] w :=
  ⟨Nat.le_refl _, fun _ _ _ => rfl, fun I hI => (h I hI).1, fun K hK => by
    have := List.mem_singleton.1 hK; subst this
    exact ⟨hH, fun b hb => .inr hb, fun I hI => (h I hI).2⟩, by simp, Io.refl _, trivial, Nat.zero_le _⟩
theorem specM_of {P : Program} {f : FuncId} {fn : Func} {c : Code} {vs : List Value} {n : Nat} {H : Hp} {ims : List Hp} {phi : Hp → Hp → Value → Prop}
    (hf : P.funcs[f]? = some fn) (hb : fn.body = some c) (hn : fn.ntmps = n) (hle : Nat.ble vs.length n = true)
    (h : ∀ B, KC ⟨P, n, B, .of (fun b => H b ≠ none), false, [], none⟩ (bodyPost P fn (ResM B H phi)) ims [H] c (pars 0 vs)) : SpecM P f vs H ims phi := fun w hH hA => by
  refine calls_of_wp hf hb ((wpIn_wide (n := 0)).1 ?_)
  rw [hn]
  exact h w _ w (fit_pars (Nat.le_of_ble_eq_true hle)) (St.initM hH hA)
theorem kq_retM {P : Program} {n : Nat} {B : World} {ims L : List Hp} {G : Env} {fn : Func} {H : Hp} {phi : Hp → Hp → Value → Prop} {t : Nat} {v : Value} (hr : fn.results = #[.tmp t]) (hv : look t G = some v)
    (H' K : Hp) [hg : Got H' ims L] [hk : Got K ims L] (hd : ∀ b, H' b ≠ none → H b ≠ none) (hf : Fr B K) (hp : phi H' K v) :
    KQ ⟨P, n, B, .of (fun b => H b ≠ none), false, [], none⟩ ims L G (bodyPost P fn (ResM B H phi) .ret) := fun a w hF hS => by
  refine ⟨hF.defers, v, ?_, hS.toExt, H', K, hd, hg.g hS, hk.g hS, hf, hp⟩
  rw [results_tmp hr, (hF.get t v hv).2]
/-- What an argument stands on, apart from the heaplet that may be written. -/
class GotA (K H : Hp) (ims L : List Hp) : Prop where
  g : ∀ {B : World} {X : Side} {w : World}, St B X ims L w → Agree K w ∧ Apart H K
instance (H : Hp) (ims L : List Hp) : GotA noHp H ims L := ⟨fun _ => ⟨agree_no _, fun _ => .inr rfl⟩⟩
instance (K H : Hp) (ims L : List Hp) [i : In K ims] [j : In H L] : GotA K H ims L := ⟨fun s => ⟨s.im K i.mem, (s.own H j.mem).2.2 K i.mem⟩⟩
instance (K H : Hp) (ims L L2 : List Hp) [r : RemH H L L2] [i : In K L2] : GotA K H ims L := ⟨fun s => by
  obtain ⟨_, h2, h3⟩ := r.r.facts
  exact ⟨(s.own K (h2 K i.mem)).1, fun b => ((h3 s.nd).2 K i.mem b).symm⟩⟩
instance (K M H : Hp) (ims L : List Hp) [h : GotA K H ims L] [k : GotA M H ims L] : GotA (orHp K M) H ims L := ⟨fun s => ⟨agree_or (h.g s).1 (k.g s).1, fun b => by
  rcases (h.g s).2 b with e | e
  · exact .inl e
  · rcases (k.g s).2 b with e' | e'
    · exact .inl e'
    · exact .inr (by simp [orHp, e, e'])⟩⟩
class AllGotA (l : List Hp) (H : Hp) (ims L : List Hp) : Prop where
  g : ∀ {B : World} {X : Side} {w : World}, St B X ims L w → ∀ K ∈ l, Agree K w ∧ Apart H K
instance (H : Hp) (ims L : List Hp) : AllGotA [] H ims L := ⟨fun _ _ h => by cases h⟩
instance (K H : Hp) (l ims L : List Hp) [h : GotA K H ims L] [t : AllGotA l H ims L] : AllGotA (K :: l) H ims L :=
  ⟨fun s M hM => by cases hM with | head => exact h.g s | tail _ h' => exact t.g s M h'⟩
theorem St.updPush {B : World} {X : Side} {ims L L' : List Hp} {w w' : World} {H H' K : Hp} (h : St B X ims L w) (u : UpdR H H' L L')
    (e : Ext (fun b => H b ≠ none) w w') (hA : Agree H' w') (hd : ∀ b, H' b ≠ none → H b ≠ none) (hK : Agree K w') (hf : Fresh w K) : St B X ims (K :: L') w' := by
  have h1 : St B X ims L' w' := h.upd (u := ⟨u⟩) e.size (fun b hb hn => e.same b hb (fun x => x hn)) hA (fun b hb => .inl (hd b hb)) e.io
  have key : ∀ M : Hp, (∀ b, M b ≠ none → b < w.heap.size) → Apart K M := fun M hM b => by
    by_cases hb : K b = none
    · exact .inl hb
    · right
      cases hm : M b with
      | none => rfl
      | some o => exact absurd (hf b hb) (Nat.not_le.2 (hM b (by rw [hm]; simp)))
  have lt : ∀ M : Hp, Agree M w → ∀ b, M b ≠ none → b < w.heap.size := fun M hM b hb => by
    cases hm : M b with
    | none => exact absurd hm hb
    | some o => exact hM.lt hm
  have hL : ∀ M ∈ L', Apart K M := fun M hM => by
    rcases u.mem' hM with rfl | hM
    · exact key _ (fun b hb => lt H (h.own H u.mem).1 b (hd b hb))
    · exact key M (lt M (h.own M hM).1)
  refine h.turn e.size (fun b hb hn => e.same b hb (fun hx => hn (.inl ⟨H, u.mem, hx⟩))) e.io (fun b hb => ?_) h1.ext h1.im (fun M hM => ?_) (.cons hL h1.nd)
  · rcases hb with ⟨M, hM, hb⟩ | hb
    · cases hM with
      | head => exact .inr (hf b hb)
      | tail _ hM =>
        rcases u.mem' hM with rfl | hm
        · exact .inl (.inl ⟨H, u.mem, hd b hb⟩)
        · exact .inl (.inl ⟨M, hm, hb⟩)
    · exact .inl (.inr hb)
  · cases hM with
    | head => exact ⟨hK, fun b hb => .inl (Nat.le_trans h.size (hf b hb)), fun I hI => key I (lt I (h.im I hI))⟩
    | tail _ hM => exact h1.own M hM
section calls
variable {C : Cx} {dr : Bool} {ops : Array Oper} {Q : Post} {ims L : List Hp} {G : Env} {fl : List Bool} {rest : List Oper} {d ty : Nat} {pos : String} {af : Array Edge}
theorem kl_callM {f : Operand} {xs : List Operand} {ats : Array Nat} {g : Nat} {cap : Array Value} {vs : List Value} {H : Hp} {ims' : List Hp} {phi : Hp → Hp → Value → Prop} {F : Hp → List Hp} [hb : FnC C.P g]
    (hf : ev G f = some (.func (.func g) #[] cap)) (ha : evs G xs = some vs) (hs : SpecM C.P g (vs ++ cap.toList) H ims' phi) [hF : UpdF H L F] [hi : AllGotA ims' H ims L]
    (h : ∀ v H' K, Fr C.B K → phi H' K v → (∀ b, H' b ≠ none → H b ≠ none) → KL C dr ops Q ims (K :: F H') fl.tail rest ((d, v) :: G)) (hlt : Nat.blt d C.n = true := by rfl) (hfl : fl.headD false = false := by rfl) (hdr : (!dr || rest.isEmpty) = true := by rfl) :
    KL C dr ops Q ims L fl (⟨some d, .call ⟨.value f, xs.toArray, ats⟩, ty, pos, af, none⟩ :: rest) G :=
  kl_act rfl hfl fun a w hFt hS => by
    have hrun : (execOp a.eval ⟨some d, .call ⟨.value f, xs.toArray, ats⟩, ty, pos, af, none⟩).run C.P w = .ok (.enter g (vs ++ cap.toList).toArray) w := by
      have h1 : xs.map a.eval = vs := hFt.evs ha
      simp only [execOp, resolve, hFt.ev hf, Deferred.ofValue, Sem.run_bind, Sem.run_pure, Result.andThen_ok, invoke, List.map_toArray, h1]
      rw [hb.run]
      simp
    unfold Oper.wp
    rw [hrun]
    refine (hs w (hS.own H (hF.u H).mem).1 (fun I hI => hi.g hS I hI)).mono fun e w' he => ?_
    cases e with
    | returned v =>
      obtain ⟨h1, H', K, h2, h3, h4, h5, h6⟩ := he
      refine ⟨ims, K :: F H', _, ?_, hFt.put (by simpa [Nat.blt_eq, Cx.m] using hlt), hS.updPush (hF.u H') h1 h3 h2 h4 h5.1, h v H' K ⟨fun b hb => Nat.le_trans hS.size (h5.1 b hb), h5.2⟩ h6 h2⟩
      cases dr with
      | true => left; simpa using hdr
      | false => right; intro e; cases e
    | panicked c => exact he
    | outgrown => exact he.elim
/-- A load from what is owned. -/
theorem kl_ldG {H : Hp} {p v : Value} {vs : List Value} {x : Operand} {T : Nat} [hT : OneC C.P T] [hi : Got H ims L] (hx : ev G x = some p) (hp : At H p (v :: vs))
    (h : KL C dr ops Q ims L fl.tail rest ((d, v) :: G)) (hlt : Nat.blt d C.n = true := by rfl) (hlo : C.lo = false := by rfl) : KL C dr ops Q ims L fl (⟨some d, .load T x, ty, pos, af, none⟩ :: rest) G :=
  kl_y (fun r w hr hs => by
    rw [Cx.whi hlo] at hs
    have hat := hp
    obtain ⟨b, o, cs, T', fz, rfl, _⟩ := hp
    have hc : w.cell? ⟨b, o, none⟩ = some v := cell_at (hi.g hs) hat (j := 0) (u := v) rfl
    simp [go_sem, hr _ _ hx, Instr.loadAt, loadVar, OneC.run, hc]) h hlt
end calls

/-! ### Stores of integers into what is owned -/
def wr (H : Hp) (b j : Nat) (u : Value) : Hp := fun b' => if b' = b then (match H b with | some (.cells cs T fz) => some (.cells (cs.toList.set j u).toArray T fz) | o => o) else H b'
theorem wr_self {H : Hp} {b j T : Nat} {u : Value} {cs : Array Value} {fz : Nat × Nat} (h : H b = some (.cells cs T fz)) : wr H b j u b = some (.cells (cs.toList.set j u).toArray T fz) := by simp [wr, h]
theorem wr_other {H : Hp} {b b' j : Nat} {u : Value} (h : b' ≠ b) : wr H b j u b' = H b' := by simp [wr, h]
theorem mk_wr {H : Hp} {b j T : Nat} {n n' : Int} {cs : Array Value} {fz : Nat × Nat} (h : H b = some (.cells cs T fz)) (hj : cs[j]? = some (.int .i64 n)) : Mk H (wr H b j (.int .i64 n')) := by
  refine ⟨fun b' hb => ?_, fun b' cs' T' fz' hb => ?_⟩
  · by_cases e : b' = b
    · subst e; rw [h] at hb; cases hb
    · rw [wr_other e]; exact hb
  · by_cases e : b' = b
    · subst e
      rw [h] at hb; cases hb
      refine ⟨_, wr_self h, by simp, fun i => ?_⟩
      by_cases ei : i = j
      · subst ei
        right
        have hlt := (Array.getElem?_eq_some_iff.1 hj).1
        exact ⟨n, n', hj, by simp [hlt]⟩
      · left; simp [List.getElem?_set, Ne.symm ei]
    · exact ⟨cs', by rw [wr_other e]; exact hb, rfl, fun _ => .inl rfl⟩
section clip
variable {C : Cx} {dr : Bool} {ops : Array Oper} {Q : Post} {ims L : List Hp} {G : Env} {fl : List Bool} {rest : List Oper} {d ty : Nat} {pos : String} {af : Array Edge}
/-- x[:n:n], n the whole length. -/
theorem kl_clip {A : Type} {H : Hp} {k n : Nat} {R : List Value → A → Prop} {v : Value} {xs : List A} {x y z0 : Operand} {T E k' by' : Nat} {z : Value} [hT : IsSlice C.P T E k' by' z]
    (hx : ev G x = some v) (hy : ev G y = some (.int .i64 (n : Int))) (hz : ev G z0 = some (.int .i64 (n : Int))) (hv : Sl H k R v xs) (hn : n = xs.length)
    (h : ∀ u, Sl H k R u xs → KL C dr ops Q ims L fl.tail rest ((d, u) :: G)) (hlt : Nat.blt d C.n = true := by rfl) :
    KL C dr ops Q ims L fl (⟨some d, .slice T x none (some y) (some z0), ty, pos, af, none⟩ :: rest) G := by
  subst hn
  obtain ⟨a, c, rfl, h1, h2, h3⟩ := hv
  refine kl_y (v := .slice a xs.length xs.length) (fun r w hr _ => ?_) (h _ ⟨a, xs.length, rfl, Nat.le_refl _, h2, h3⟩) hlt
  simp only [execOp, Sem.run_bind, hr _ _ hx, hr _ _ hy, hr _ _ hz, Option.map_some, Option.map_none]
  by_cases hc : c = 0
  · have hi0 : xs.length = 0 := by omega
    subst hc
    simp [hi0, Instr.sliceAt, run_underlying hT.u, Instr.slice, Instr.sliceBounds, Instr.sliceBound, asIntOf, go_sem, sizeOf_run hT.size]
    try (cases a <;> simp [Addr.add, go_sem])
  · cases a with
    | none => simp [Instr.sliceAt, run_underlying hT.u, Instr.slice, Instr.sliceBounds, Instr.sliceBound, asIntOf, go_sem, sizeOf_run hT.size, h1]
    | some a => simp [Instr.sliceAt, run_underlying hT.u, Instr.slice, Instr.sliceBounds, Instr.sliceBound, asIntOf, go_sem, sizeOf_run hT.size, h1, Addr.add]
/-- u is v with its capacity cut to its length. -/
def ClipV (v u : Value) (n : Nat) : Prop := ∃ a c, v = .slice a n c ∧ n ≤ c ∧ u = .slice a n n
theorem OwnL.clip {A : Type} {E k : Nat} {H K : Hp} {R : Rel A} {v u : Value} {xs : List A} (h : OwnL E k H K R v xs) (hc : ClipV v u xs.length) : OwnL E k H K R u xs := by
  obtain ⟨cs, ⟨h1, h2, h3⟩, h4⟩ := h
  obtain ⟨a, c, e, hle, rfl⟩ := hc
  refine ⟨cs, ⟨h1, h2, ?_⟩, h4⟩
  rcases h3 with ⟨a0, rfl, h0, rfl⟩ | ⟨b, c', cur, rfl, g1, g2, g3, g4, rfl⟩
  · simp only [Value.slice.injEq] at e
    obtain ⟨rfl, e1, e2⟩ := e
    exact .inl ⟨a0, by rw [h0], h0, rfl⟩
  · simp only [Value.slice.injEq] at e
    obtain ⟨rfl, e1, e2⟩ := e
    exact .inr ⟨b, xs.length, cur, rfl, Nat.le_refl _, Nat.le_trans g1 g2, Nat.le_trans (Nat.mul_le_mul_right _ g1) g3, g4, rfl⟩
theorem kl_clipV {A : Type} {H : Hp} {k n : Nat} {R : List Value → A → Prop} {v : Value} {xs : List A} {x y z0 : Operand} {T E k' by' : Nat} {z : Value} [hT : IsSlice C.P T E k' by' z]
    (hx : ev G x = some v) (hy : ev G y = some (.int .i64 (n : Int))) (hz : ev G z0 = some (.int .i64 (n : Int))) (hv : Sl H k R v xs) (hn : n = xs.length)
    (h : ∀ u, Sl H k R u xs → ClipV v u xs.length → KL C dr ops Q ims L fl.tail rest ((d, u) :: G)) (hlt : Nat.blt d C.n = true := by rfl) :
    KL C dr ops Q ims L fl (⟨some d, .slice T x none (some y) (some z0), ty, pos, af, none⟩ :: rest) G := by
  subst hn
  obtain ⟨a, c, rfl, h1, h2, h3⟩ := hv
  refine kl_y (v := .slice a xs.length xs.length) (fun r w hr _ => ?_) (h _ ⟨a, xs.length, rfl, Nat.le_refl _, h2, h3⟩ ⟨a, c, rfl, h1, rfl⟩) hlt
  simp only [execOp, Sem.run_bind, hr _ _ hx, hr _ _ hy, hr _ _ hz, Option.map_some, Option.map_none]
  by_cases hc : c = 0
  · have hi0 : xs.length = 0 := by omega
    subst hc
    simp [hi0, Instr.sliceAt, run_underlying hT.u, Instr.slice, Instr.sliceBounds, Instr.sliceBound, asIntOf, go_sem, sizeOf_run hT.size]
    try (cases a <;> simp [Addr.add, go_sem])
  · cases a with
    | none => simp [Instr.sliceAt, run_underlying hT.u, Instr.slice, Instr.sliceBounds, Instr.sliceBound, asIntOf, go_sem, sizeOf_run hT.size, h1]
    | some a => simp [Instr.sliceAt, run_underlying hT.u, Instr.slice, Instr.sliceBounds, Instr.sliceBound, asIntOf, go_sem, sizeOf_run hT.size, h1, Addr.add]
end clip
section stores
variable {C : Cx} {dr : Bool} {ops : Array Oper} {Q : Post} {ims L : List Hp} {G : Env} {fl : List Bool} {rest : List Oper} {d ty : Nat} {pos : String} {af : Array Edge}
theorem kl_stW1 {x y : Operand} {T b j E : Nat} {H : Hp} {n n' : Int} {cs : Array Value} {F : Hp → List Hp} [hT : OneC C.P T] [hF : UpdF H L F]
    (hx : ev G x = some (.pointer (some ⟨b, j, none⟩))) (hy : ev G y = some (.int .i64 n')) (hb : H b = some (.cells cs E (0, 0))) (hj : cs[j]? = some (.int .i64 n))
    (h : KL C dr ops Q ims (F (wr H b j (.int .i64 n'))) fl.tail rest G) (hfl : fl.headD false = false) (hdr : (!dr || rest.isEmpty) = true) :
    KL C dr ops Q ims L fl (⟨none, .store T x y, ty, pos, af, none⟩ :: rest) G :=
  kl_act rfl hfl fun a w hf hs' => by
    have hown := hs'.own H (hF.u H).mem
    have hlt := (Array.getElem?_eq_some_iff.1 hj).1
    have hbw := hown.1 b _ hb
    have hcs : cs = cs.toList.toArray := by simp
    rw [hcs] at hbw
    have hset : (cs.toList.take j ++ [Value.int .i64 n'] ++ cs.toList.drop (j + [Value.int .i64 n'].length)) = cs.toList.set j (.int .i64 n') := by
      rw [List.set_eq_take_append_cons_drop, if_pos (by simpa using hlt)]
      simp
    have hrun : (execOp a.eval ⟨none, .store T x y, ty, pos, af, none⟩).run C.P w = .ok .skip (w.setRow b (cs.toList.set j (.int .i64 n')).toArray) := by
      have := store_run (P := C.P) (T := T) (j := j) (u := .int .i64 n') (us := [.int .i64 n']) rfl (by simpa using hT.i) (fun x hx => by rw [List.mem_singleton.1 hx]; rfl) hbw (by simp; omega)
      rw [hset] at this
      simp only [execOp, Sem.run_bind, hf.ev hx, hf.ev hy, this, Result.andThen_ok, Sem.run_pure]
    unfold Oper.wp
    rw [hrun]
    refine ⟨ims, F (wr H b j (.int .i64 n')), G, ?_, hf.putNone, ?_, h⟩
    · cases dr with
      | true => left; simpa using hdr
      | false => right; intro e; cases e
    · refine hs'.upd (u := ⟨hF.u _⟩) (by simp) (fun b' _ hn => ?_) (fun b' o' hb' => ?_) (fun b' hb' => .inl ?_) ⟨rfl, rfl⟩
      · have hne : b' ≠ b := fun e => by subst e; rw [hb] at hn; cases hn
        exact setRow_other w b b' _ hne
      · by_cases e : b' = b
        · subst e
          rw [wr_self hb] at hb'; cases hb'
          exact setRow_get w _ cs.toList E _ hbw
        · rw [wr_other e] at hb'
          rw [setRow_other w b b' _ e]; exact hown.1 b' o' hb'
      · by_cases e : b' = b
        · subst e; rw [hb]; simp
        · rw [wr_other e] at hb'; exact hb'
/-- A store of an integer where an integer was. -/
theorem kl_stA {x y : Operand} {T : Nat} {H : Hp} {p : Value} {n n' : Int} {vs : List Value} {F : Hp → List Hp} [hT : OneC C.P T] [hF : UpdF H L F] (hx : ev G x = some p) (hy : ev G y = some (.int .i64 n')) (hp : At H p (.int .i64 n :: vs)) (hl : Liq H)
    (h : ∀ H', Mk H H' → At H' p (.int .i64 n' :: vs) → KL C dr ops Q ims (F H') fl.tail rest G) (hfl : fl.headD false = false := by rfl) (hdr : (!dr || rest.isEmpty) = true := by rfl) :
    KL C dr ops Q ims L fl (⟨none, .store T x y, ty, pos, af, none⟩ :: rest) G := by
  obtain ⟨b, o, cs, T', fz, rfl, hb, hc⟩ := hp
  obtain ⟨cs0, T0, e⟩ := hl b _ hb
  cases e
  have hj : cs[o]? = some (.int .i64 n) := hc 0 _ rfl
  refine kl_stW1 hx hy hb hj (h _ (mk_wr hb hj) ⟨b, o, _, _, _, rfl, wr_self hb, fun j u hu => ?_⟩) hfl hdr
  have hlt := (Array.getElem?_eq_some_iff.1 hj).1
  cases j with
  | zero => simp at hu; subst hu; simp [hlt]
  | succ j =>
    have := hc (j + 1) u (by simpa using hu)
    simp [List.getElem?_set, ← this]
def PtrS (v p : Value) (i : Nat) : Prop := ∃ b o n c, v = .slice (some ⟨b, o, none⟩) n c ∧ p = .pointer (some ⟨b, o + i, none⟩)
theorem Ints.wr {H : Hp} {v : Value} {xs : List Int} {b o i c T : Nat} {n' : Int} {cs : Array Value} {fz : Nat × Nat} (hv : Ints H v xs) (ev : v = .slice (some ⟨b, o, none⟩) xs.length c) (hb : H b = some (.cells cs T fz)) :
    Ints (wr H b (o + i) (.int .i64 n')) v (xs.set i n') := by
  obtain ⟨a, c', e, h1, h2, h3⟩ := hv
  rw [ev] at e
  simp only [Value.slice.injEq, true_and] at e
  obtain ⟨rfl, rfl⟩ := e
  subst ev
  refine ⟨_, c, by simp, by simpa using h1, by simpa using h2, fun k hk => ⟨b, o, rfl, ?_⟩⟩
  have hk' : k < xs.length := by simpa using hk
  obtain ⟨b', o', e, vs, hl, hr, hat⟩ := h3 k hk'
  simp only [Option.some.injEq, Addr.mk.injEq, and_true] at e
  obtain ⟨rfl, rfl⟩ := e
  unfold IntC at hr
  subst hr
  obtain ⟨b', o', cs', T', fz', e, hb', hc'⟩ := hat
  simp only [Value.pointer.injEq, Option.some.injEq, Addr.mk.injEq, and_true] at e
  obtain ⟨rfl, rfl⟩ := e
  rw [hb] at hb'; cases hb'
  have hck := hc' 0 _ rfl
  have hlt := (Array.getElem?_eq_some_iff.1 hck).1
  simp only [Nat.mul_one, Nat.add_zero] at hck hlt
  refine ⟨[.int .i64 ((xs.set i n')[k])], rfl, rfl, b, o + k * 1, _, _, _, rfl, wr_self hb, fun j u hu => ?_⟩
  cases j with
  | succ j => simp at hu
  | zero =>
    simp only [List.getElem?_cons_zero, Option.some.injEq] at hu
    subst hu
    simp only [Nat.mul_one, Nat.add_zero, List.getElem?_toArray, List.getElem?_set, List.getElem_set]
    by_cases e : i = k
    · subst e; simp [hlt]
    · have : o + i ≠ o + k := by omega
      simp only [this, e, if_false]
      simpa using hck
/-- The place of element i. -/
theorem kl_inP {H : Hp} {v : Value} {xs : List Int} {x y : Operand} {i T E by' : Nat} {z : Value} [hT : IsSlice C.P T E 1 by' z] (hx : ev G x = some v) (hy : ev G y = some (.int .i64 (i : Int))) (hv : Ints H v xs) (h1 : i < xs.length)
    (h : ∀ p, PtrS v p i → At H p [.int .i64 (xs.getD i 0)] → KL C dr ops Q ims L fl.tail rest ((d, p) :: G)) (hlt : Nat.blt d C.n = true := by rfl) :
    KL C dr ops Q ims L fl (⟨some d, .indexAddr T x y, ty, pos, af, none⟩ :: rest) G := by
  obtain ⟨a, c, rfl, h2, h3, h4⟩ := id hv
  obtain ⟨b, o, rfl, vs, hl, hr, hat⟩ := h4 i h1
  unfold IntC at hr
  subst hr
  have e : xs.getD i 0 = xs[i] := by rw [List.getD_eq_getElem?_getD, List.getElem?_eq_getElem h1]; rfl
  refine kl_y (v := .pointer (some ⟨b, o + i, none⟩)) (fun r w hr _ => ?_) (h _ ⟨b, o, _, _, rfl, rfl⟩ (by rw [e]; simpa using hat)) hlt
  have hi' : ¬ xs.length ≤ i := by omega
  simp [go_sem, hr _ _ hx, hr _ _ hy, Instr.indexAt, run_underlying hT.u, sizeOf_run hT.size, Addr.add_lit, hi']
/-- A store into element i. -/
theorem kl_stS {x y : Operand} {T i : Nat} {H : Hp} {v p : Value} {n' : Int} {xs : List Int} {F : Hp → List Hp} [hT : OneC C.P T] [hF : UpdF H L F] (hx : ev G x = some p) (hy : ev G y = some (.int .i64 n')) (hp : PtrS v p i) (hv : Ints H v xs) (hi : i < xs.length) (hl : Liq H)
    (h : ∀ H', Mk H H' → Ints H' v (xs.set i n') → KL C dr ops Q ims (F H') fl.tail rest G) (hfl : fl.headD false = false := by rfl) (hdr : (!dr || rest.isEmpty) = true := by rfl) :
    KL C dr ops Q ims L fl (⟨none, .store T x y, ty, pos, af, none⟩ :: rest) G := by
  obtain ⟨b, o, n, c, rfl, rfl⟩ := hp
  have hv' := hv
  obtain ⟨a, c', e, h2, h3, h4⟩ := hv
  simp only [Value.slice.injEq] at e
  obtain ⟨rfl, rfl, rfl⟩ := e
  obtain ⟨b', o', e, vs, hl', hr, hat⟩ := h4 i hi
  simp only [Option.some.injEq, Addr.mk.injEq, and_true] at e
  obtain ⟨rfl, rfl⟩ := e
  unfold IntC at hr
  subst hr
  obtain ⟨b', o', cs, T', fz, e, hb, hc⟩ := hat
  simp only [Value.pointer.injEq, Option.some.injEq, Addr.mk.injEq, and_true] at e
  obtain ⟨rfl, rfl⟩ := e
  obtain ⟨cs0, T0, e⟩ := hl b _ hb
  cases e
  have hj : cs[o + i]? = some (.int .i64 xs[i]) := by simpa using hc 0 _ rfl
  exact kl_stW1 hx hy hb hj (h _ (mk_wr hb hj) (hv'.wr rfl hb)) hfl hdr
end stores
end Go.Proofs.Ytiilanckbocifaa
