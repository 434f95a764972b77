/- Calls that write one heaplet of the caller's: integers in cells that held integers. Conditions: none. -/
import Derived.Test.YtojinjdobjodaaaGreatFin
namespace Go.Proofs.YtojinjdobjodaaaGreat
open Go
set_option linter.unusedSimpArgs false
set_option linter.unusedVariables false

/-- A cell may have turned only from one integer to another. -/
def ShC (u u' : Option Value) : Prop := u' = u ∨ ∃ n n' : Int, u = some (.int .i64 n) ∧ u' = some (.int .i64 n')
theorem ShC.trans {a b c : Option Value} (h : ShC a b) (k : ShC b c) : ShC a c := by
  rcases h with rfl | ⟨n, n', rfl, rfl⟩
  · exact k
  · rcases k with rfl | ⟨m, m', h1, rfl⟩
    · exact .inr ⟨n, n', rfl, rfl⟩
    · exact .inr ⟨n, m', rfl, rfl⟩
/-- The same rows; integers may have turned. -/
def Mk (H H' : Hp) : Prop := (∀ b, H b = none → H' b = none) ∧ ∀ b cs T fz, H b = some (.cells cs T fz) → ∃ cs', H' b = some (.cells cs' T fz) ∧ cs'.size = cs.size ∧ ∀ j : Nat, ShC cs[j]? cs'[j]?
theorem Mk.refl (H : Hp) : Mk H H := ⟨fun _ h => h, fun _ cs _ _ h => ⟨cs, h, rfl, fun _ => .inl rfl⟩⟩
theorem Mk.trans {H K M : Hp} (h : Mk H K) (k : Mk K M) : Mk H M := ⟨fun b hb => k.1 b (h.1 b hb), fun b cs T fz hb => by
  obtain ⟨c1, h1, h2, h3⟩ := h.2 b cs T fz hb
  obtain ⟨c2, k1, k2, k3⟩ := k.2 b c1 T fz h1
  exact ⟨c2, k1, k2.trans h2, fun j => (h3 j).trans (k3 j)⟩⟩
theorem Mk.dom {H H' : Hp} (h : Mk H H') (b : Nat) (hb : H' b ≠ none) : H b ≠ none := fun e => hb (h.1 b e)
theorem Mk.liq {H H' : Hp} (h : Mk H H') (l : Liq H) : Liq H' := fun b o hb => by
  cases hh : H b with
  | none => rw [h.1 b hh] at hb; cases hb
  | some x =>
    obtain ⟨cs, T, rfl⟩ := l b x hh
    obtain ⟨cs', h1, _⟩ := h.2 b cs T _ hh
    rw [h1] at hb; cases hb; exact ⟨_, _, rfl⟩
def ShL (vs vs' : List Value) : Prop := vs'.length = vs.length ∧ ∀ j : Nat, ShC vs[j]? vs'[j]?
theorem Mk.at {H H' : Hp} (h : Mk H H') {p : Value} {vs : List Value} (hp : At H p vs) : ∃ vs', At H' p vs' ∧ ShL vs vs' := by
  obtain ⟨b, o, cs, T, fz, rfl, hb, hc⟩ := hp
  obtain ⟨cs', h1, h2, h3⟩ := h.2 b cs T fz hb
  have hlen : ∀ j, j < vs.length → o + j < cs'.size := fun j hj => by
    have := hc j _ (List.getElem?_eq_getElem hj)
    rw [h2]; exact (Array.getElem?_eq_some_iff.1 this).1
  refine ⟨(List.range vs.length).map (fun j => cs'.getD (o + j) undef), ⟨b, o, cs', T, fz, rfl, h1, fun j u hj => ?_⟩, by simp, fun j => ?_⟩
  · have hj' : j < vs.length := by have := (List.getElem?_eq_some_iff.1 hj).1; simpa using this
    have := (List.getElem?_eq_some_iff.1 hj).2
    simp [Array.getD, hlen j hj'] at this
    rw [Array.getElem?_eq_getElem (hlen j hj'), this]
  · by_cases hj : j < vs.length
    · have e1 : vs[j]? = cs[o + j]? := by rw [List.getElem?_eq_getElem hj, hc j _ (List.getElem?_eq_getElem hj)]
      have e2 : ((List.range vs.length).map (fun j => cs'.getD (o + j) undef))[j]? = cs'[o + j]? := by
        rw [List.getElem?_map, List.getElem?_range hj]
        simp [Array.getD, hlen j hj]
      rw [e1, e2]; exact h3 _
    · left; rw [List.getElem?_eq_none (by simpa using hj), List.getElem?_eq_none (by omega)]
theorem Mk.sl {A N : Type} {H H' : Hp} {k : Nat} {R R' : List Value → A → Prop} {v : Value} {xs : List A} (m : A → N) (h : Mk H H') (hR : ∀ vs vs' x, R vs x → ShL vs vs' → ∃ x', R' vs' x' ∧ m x' = m x) (hs : Sl H k R v xs) : ∃ xs', Sl H' k R' v xs' ∧ xs'.map m = xs.map m := by
  obtain ⟨a, c, rfl, h1, h2, h3⟩ := hs
  have each : ∀ i : Fin xs.length, ∃ x' : A, m x' = m xs[i.1] ∧ ∃ b o, a = some ⟨b, o, none⟩ ∧ ∃ vs, vs.length = k ∧ R' vs x' ∧ At H' (.pointer (some ⟨b, o + i.1 * k, none⟩)) vs := fun i => by
    obtain ⟨b, o, e, vs, l, r, t⟩ := h3 i.1 i.2
    obtain ⟨vs', t', s⟩ := h.at t
    obtain ⟨x', r', e2⟩ := hR _ _ _ r s
    exact ⟨x', e2, b, o, e, vs', s.1.trans l, r', t'⟩
  refine ⟨List.ofFn (fun i => Classical.choose (each i)), ⟨a, c, by simp, by simpa using h1, by simpa using h2, fun i hi => ?_⟩, ?_⟩
  · have := (Classical.choose_spec (each ⟨i, by simpa using hi⟩)).2
    simpa using this
  · apply List.ext_getElem
    · simp
    · intro i h4 h5
      have := (Classical.choose_spec (each ⟨i, by simpa using h5⟩)).1
      simpa using this
theorem shl_one {u : Value} {vs' : List Value} (h : ShL [u] vs') : ∃ u', vs' = [u'] ∧ (u' = u ∨ ∃ n n' : Int, u = .int .i64 n ∧ u' = .int .i64 n') := by
  obtain ⟨h1, h2⟩ := h
  match vs', h1 with
  | [u'], _ =>
    refine ⟨u', rfl, ?_⟩
    have := h2 0
    simpa [ShC] using this
theorem len_of {A N : Type} {m : A → N} {xs xs' : List A} (h : xs'.map m = xs.map m) : xs'.length = xs.length := by simpa using congrArg List.length h
theorem Mk.ints {H H' : Hp} (h : Mk H H') {v : Value} {xs : List Int} (hs : Ints H v xs) : ∃ xs', Ints H' v xs' ∧ xs'.length = xs.length := by
  obtain ⟨xs', h1, h2⟩ := h.sl (R' := IntC) (fun _ => ()) (fun vs vs' x r s => by
    unfold IntC at r; subst r
    obtain ⟨u', rfl, e | ⟨n, n', _, e⟩⟩ := shl_one s
    · exact ⟨x, by rw [e]; rfl, rfl⟩
    · exact ⟨n', by rw [e]; rfl, rfl⟩) hs
  exact ⟨xs', h1, len_of h2⟩
theorem Mk.rows {H H' : Hp} (h : Mk H H') {v : Value} {xs : List (List Int)} (hs : Rows H v xs) : ∃ xs', Rows H' v xs' ∧ xs'.map List.length = xs.map List.length :=
  h.sl List.length (fun vs vs' x r s => by
    obtain ⟨u, rfl, hu⟩ := r
    obtain ⟨u', rfl, e | ⟨n, n', e, _⟩⟩ := shl_one s
    · subst e; obtain ⟨x', h1, h2⟩ := h.ints hu; exact ⟨x', ⟨u', rfl, h1⟩, h2⟩
    · obtain ⟨a, c, e', _⟩ := hu; rw [e'] at e; cases e) hs
/-- The sizes of a constraint. -/
def conSz (c : Con) : Nat × Nat × List Nat := (c.vars.length, c.args.length, c.rows.map List.length)
theorem Mk.con {H H' : Hp} (h : Mk H H') {vs vs' : List Value} {c : Con} (hc : ConV H vs c) (s : ShL vs vs') : ∃ c', ConV H' vs' c' ∧ conSz c' = conSz c := by
  obtain ⟨a, b, r, rfl, ha, hb, hr⟩ := hc
  obtain ⟨h1, h2⟩ := s
  obtain ⟨xa, ha', la⟩ := h.ints ha
  obtain ⟨xb, hb', lb⟩ := h.ints hb
  obtain ⟨xr, hr', lr⟩ := h.rows hr
  have sl : ∀ {k : Nat} {A : Type} {R : List Value → A → Prop} {u : Value} {xs : List A} {u' : Value}, Sl H k R u xs → ShC (some u) (some u') → u' = u := fun hs hc => by
    obtain ⟨a, c, rfl, _⟩ := hs
    rcases hc with e | ⟨n, n', e, _⟩
    · simpa using e
    · simp at e
  have int : ∀ {n : Int} {u' : Value}, ShC (some (.int .i64 n)) (some u') → ∃ n', u' = .int .i64 n' := fun hc => by
    rcases hc with e | ⟨n, n', _, e⟩
    · exact ⟨_, by simpa using e⟩
    · exact ⟨n', by simpa using e⟩
  match vs', h1 with
  | [v0, v1, v2, v3, v4], _ =>
    obtain ⟨k, rfl⟩ := int (h2 0)
    have e1 := sl ha (h2 1)
    have e2 := sl hb (h2 2)
    obtain ⟨q, rfl⟩ := int (h2 3)
    have e4 := sl hr (h2 4)
    subst e1 e2 e4
    exact ⟨⟨k, xa, xb, q, xr⟩, ⟨_, _, _, rfl, ha', hb', hr'⟩, by simp only [conSz, la, lb, lr]⟩
theorem Mk.cons {H H' : Hp} (h : Mk H H') {v : Value} {xs : List Con} (hs : Cons H v xs) : ∃ xs', Cons H' v xs' ∧ xs'.map conSz = xs.map conSz :=
  h.sl conSz (fun vs vs' x r s => h.con r s) hs

/-! ### Calls -/
/-- What an argument stands on, apart from the heaplet that may be written. -/
class GotA (K H : Hp) (ims L : List Hp) : Prop where
  g : ∀ {B : World} {X : Side} {w : World}, St B X ims L w → Agree K w ∧ Apart H K
instance (H : Hp) (ims L : List Hp) : GotA noHp H ims L := ⟨fun _ => ⟨agree_no _, fun _ => .inr rfl⟩⟩
instance (K H : Hp) (ims L : List Hp) [i : In K ims] [j : In H L] : GotA K H ims L := ⟨fun s => ⟨s.im K i.mem, (s.own H j.mem).2.2 K i.mem⟩⟩
instance (K H : Hp) (ims L L2 : List Hp) [r : RemH H L L2] [i : In K L2] : GotA K H ims L := ⟨fun s => by
  obtain ⟨_, h2, h3⟩ := r.r.facts
  exact ⟨(s.own K (h2 K i.mem)).1, fun b => ((h3 s.nd).2 K i.mem b).symm⟩⟩
instance (K M H : Hp) (ims L : List Hp) [h : GotA K H ims L] [k : GotA M H ims L] : GotA (orHp K M) H ims L := ⟨fun s => ⟨agree_or (h.g s).1 (k.g s).1, fun b => by
  rcases (h.g s).2 b with e | e
  · exact .inl e
  · rcases (k.g s).2 b with e' | e'
    · exact .inl e'
    · exact .inr (by simp [orHp, e, e'])⟩⟩
class AllGotA (l : List Hp) (H : Hp) (ims L : List Hp) : Prop where
  g : ∀ {B : World} {X : Side} {w : World}, St B X ims L w → ∀ K ∈ l, Agree K w ∧ Apart H K
instance (H : Hp) (ims L : List Hp) : AllGotA [] H ims L := ⟨fun _ _ h => by cases h⟩
instance (K H : Hp) (l ims L : List Hp) [h : GotA K H ims L] [t : AllGotA l H ims L] : AllGotA (K :: l) H ims L :=
  ⟨fun s M hM => by cases hM with | head => exact h.g s | tail _ h' => exact t.g s M h'⟩
section calls
variable {C : Cx} {dr : Bool} {ops : Array Oper} {Q : Post} {ims L : List Hp} {G : Env} {fl : List Bool} {rest : List Oper} {d ty : Nat} {pos : String} {af : Array Edge}
end calls

/-! ### Stores of integers into what is owned -/
section clip
variable {C : Cx} {dr : Bool} {ops : Array Oper} {Q : Post} {ims L : List Hp} {G : Env} {fl : List Bool} {rest : List Oper} {d ty : Nat} {pos : String} {af : Array Edge}
/-- u is v with its capacity cut to its length. -/
def ClipV (v u : Value) (n : Nat) : Prop := ∃ a c, v = .slice a n c ∧ n ≤ c ∧ u = .slice a n n
theorem OwnL.clip {A : Type} {E k : Nat} {H K : Hp} {R : Rel A} {v u : Value} {xs : List A} (h : OwnL E k H K R v xs) (hc : ClipV v u xs.length) : OwnL E k H K R u xs := by
  obtain ⟨cs, ⟨h1, h2, h3⟩, h4⟩ := h
  obtain ⟨a, c, e, hle, rfl⟩ := hc
  refine ⟨cs, ⟨h1, h2, ?_⟩, h4⟩
  rcases h3 with ⟨a0, rfl, h0, rfl⟩ | ⟨b, c', cur, rfl, g1, g2, g3, g4, rfl⟩
  · simp only [Value.slice.injEq] at e
    obtain ⟨rfl, e1, e2⟩ := e
    exact .inl ⟨a0, by rw [h0], h0, rfl⟩
  · simp only [Value.slice.injEq] at e
    obtain ⟨rfl, e1, e2⟩ := e
    exact .inr ⟨b, xs.length, cur, rfl, Nat.le_refl _, Nat.le_trans g1 g2, Nat.le_trans (Nat.mul_le_mul_right _ g1) g3, g4, rfl⟩
theorem kl_clipV {A : Type} {H : Hp} {k n : Nat} {R : List Value → A → Prop} {v : Value} {xs : List A} {x y z0 : Operand} {T E k' by' : Nat} {z : Value} [hT : IsSlice C.P T E k' by' z]
    (hx : ev G x = some v) (hy : ev G y = some (.int .i64 (n : Int))) (hz : ev G z0 = some (.int .i64 (n : Int))) (hv : Sl H k R v xs) (hn : n = xs.length)
    (h : ∀ u, Sl H k R u xs → ClipV v u xs.length → KL C dr ops Q ims L fl.tail rest ((d, u) :: G)) (hlt : Nat.blt d C.n = true := by rfl) :
    KL C dr ops Q ims L fl (⟨some d, .slice T x none (some y) (some z0), ty, pos, af, none⟩ :: rest) G := by
  subst hn
  obtain ⟨a, c, rfl, h1, h2, h3⟩ := hv
  refine kl_y (v := .slice a xs.length xs.length) (fun r w hr _ => ?_) (h _ ⟨a, xs.length, rfl, Nat.le_refl _, h2, h3⟩ ⟨a, c, rfl, h1, rfl⟩) hlt
  simp only [execOp, Sem.run_bind, hr _ _ hx, hr _ _ hy, hr _ _ hz, Option.map_some, Option.map_none]
  by_cases hc : c = 0
  · have hi0 : xs.length = 0 := by omega
    subst hc
    simp [hi0, Instr.sliceAt, run_underlying hT.u, Instr.slice, Instr.sliceBounds, Instr.sliceBound, asIntOf, go_sem, sizeOf_run hT.size]
    try (cases a <;> simp [Addr.add, go_sem])
  · cases a with
    | none => simp [Instr.sliceAt, run_underlying hT.u, Instr.slice, Instr.sliceBounds, Instr.sliceBound, asIntOf, go_sem, sizeOf_run hT.size, h1]
    | some a => simp [Instr.sliceAt, run_underlying hT.u, Instr.slice, Instr.sliceBounds, Instr.sliceBound, asIntOf, go_sem, sizeOf_run hT.size, h1, Addr.add]
end clip
section stores
variable {C : Cx} {dr : Bool} {ops : Array Oper} {Q : Post} {ims L : List Hp} {G : Env} {fl : List Bool} {rest : List Oper} {d ty : Nat} {pos : String} {af : Array Edge}
end stores
end Go.Proofs.YtojinjdobjodaaaGreat
