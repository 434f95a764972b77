/- Parts of the proof: a logic of partial frames, plain functions, walks of the program's functions. Conditions: those that each statement names. -/
import Derived.Test.YtolndgeihijlbaaGreatKCheckBound8
import Derived.ProofKit
import Derived.SizedLaws
import Derived.Test.YtolndgeihijlbaaGreatRows
namespace Go.Proofs.YtolndgeihijlbaaGreat
open Go
set_option linter.unusedSimpArgs false
set_option linter.unusedVariables false
section
open Go Go.ChangeShapes Go.WideShapes Go.ChangeAt Go.RowKit
/-- All of a world's memory. -/
def allHp (w : World) : Hp := fun b => w.heap[b]?
theorem agree_all (w : World) : Agree (allHp w) w := fun _ _ h => h
section
variable {H : Type} {enc : TypeId × Value → H} {P : Program} {w : World} {base : Nat} {spare : Nat → Bool} {held : Bool}
theorem cellAt {b o : Nat} {v : Value} (h : w.cell? ⟨b, o, none⟩ = some v) : ∃ cs T fz, w.heap[b]? = some (.cells cs T fz) ∧ cs[o]? = some v := by
  unfold World.cell? at h
  cases hh : w.heap[b]? with
  | none => simp [hh] at h
  | some ob =>
    cases ob with
    | cells cs T fz => simp [hh] at h; exact ⟨cs, T, fz, rfl, h⟩
    | map es c => simp [hh] at h
    | _ => simp [hh] at h
theorem trod_int {t : TypeId} {k : IntKind} {n : Nat} {vs : List Value} {y : DataW H × List MemPlace} (ht : P.underlying t = some (.int k)) (h : DataW.trod enc P w base spare held n t vs = some y) : ∃ a : Int, vs = [.int k a] := by
  cases n with
  | zero => simp [DataW.trod] at h
  | succ n =>
    unfold DataW.trod at h
    rw [ht] at h
    split at h <;> simp_all
/-- The reading fits into what an address can reach. -/
def Wt (P : Program) (t : TypeId) (d : DataW H) : Prop := (d.weights P t).all (· ≤ reachBytes) = true
theorem wtAll {e : TypeId} : ∀ {ds : List (DataW H)}, (DataW.weightsAll P e ds).all (· ≤ reachBytes) = true → ∀ d ∈ ds, Wt P e d
  | [], _, _, h => by cases h
  | d :: ds, hw, x, h => by
    simp only [DataW.weightsAll, List.all_append, Bool.and_eq_true] at hw
    cases h with
    | head => exact hw.1
    | tail _ h => exact wtAll hw.2 x h
theorem wt_slice {t e : TypeId} {ds sp : List (DataW H)} (ht : P.underlying t = some (.slice e)) (h : Wt P t (.slice ds sp)) : (ds.length + sp.length) * P.bytesOf e ≤ reachBytes ∧ ∀ d ∈ ds, Wt P e d := by
  unfold Wt DataW.weights at h
  rw [ht] at h
  simp only [List.all_cons, List.all_append, Bool.and_eq_true, decide_eq_true_eq] at h
  exact ⟨h.1, wtAll h.2.1⟩
theorem wtEach : ∀ {ts : List TypeId} {ds : List (DataW H)}, (DataW.weightsEach P ts ds).all (· ≤ reachBytes) = true → ∀ (i : Nat) (t : TypeId) (d : DataW H), ts[i]? = some t → ds[i]? = some d → Wt P t d
  | [], _, _, i, _, _, h, _ => by cases i <;> simp at h
  | _ :: _, [], _, i, _, _, _, h => by cases i <;> simp at h
  | t :: ts, d :: ds, hw, i, t', d', h1, h2 => by
    simp only [DataW.weightsEach, List.all_append, Bool.and_eq_true] at hw
    cases i with
    | zero => simp at h1 h2; subst h1 h2; exact hw.1
    | succ i => exact wtEach hw.2 i t' d' (by simpa using h1) (by simpa using h2)
theorem trod_sl {A : Type} {R : List Value → A → Prop} {t e : TypeId} {k fuel : Nat} {cs : List Value} {x : DataW H × List MemPlace} (ht : P.underlying t = some (.slice e)) (hk : P.cellsOf e = k) (k0 : 0 < k) (hb : 0 < P.bytesOf e)
    (hel : ∀ n vs y, vs.length = k → DataW.trod enc P w base spare held n e vs = some y → Wt P e y.1 → ∃ a : A, R vs a) (h : DataW.trod enc P w base spare held fuel t cs = some x) (hw : Wt P t x.1) :
    ∃ v xs, cs = [v] ∧ Sl (allHp w) k R v xs := by
  rcases DataW.trod_slice ht h with ⟨h0, _⟩ | ⟨a, len, cap, elems, rest, n, _, rfl, rfl, _, hl, hm, hlen, hE, _⟩
  · exact ⟨_, [], h0, Sl.nil⟩
  · rw [hk] at hE
    obtain ⟨hw1, hw2⟩ := wt_slice ht hw
    have hreach : len ≤ 140737488355328 := by
      simp only [List.length_map, hlen, reachBytes] at hw1
      have h1 : len * 1 ≤ (len + rest.length) * P.bytesOf e := Nat.mul_le_mul (by omega) hb
      omega
    obtain ⟨b, o, sp⟩ := a
    have raw : ∀ i, i < len → ∃ vs : List Value, (∃ x : A, R vs x) ∧ vs.length = k ∧ ∀ j, j < k → w.cell? (((⟨b, o, sp⟩ : Addr).add (i * k)).add j) = vs[j]? := fun i hi => by
      have h1 := hE i hi
      rw [List.getElem?_eq_getElem (by omega), Option.bind_eq_some_iff] at h1
      obtain ⟨vs, h2, h3⟩ := h1
      obtain ⟨_, h4, h5⟩ := World.cells?_some h2
      exact ⟨vs, hel _ _ _ h4 h3 (hw2 _ (List.mem_map.2 ⟨_, List.getElem_mem _, rfl⟩)), h4, h5⟩
    by_cases h0 : len = 0
    · subst h0
      exact ⟨_, [], rfl, some ⟨b, o, sp⟩, cap, rfl, Nat.zero_le _, Nat.zero_le _, fun i h => absurd h (Nat.not_lt_zero i)⟩
    · have hsp : sp = none := by
        obtain ⟨vs, _, h4, h5⟩ := raw 0 (by omega)
        have h6 := h5 0 k0
        rw [List.getElem?_eq_getElem (by omega)] at h6
        have e : (((⟨b, o, sp⟩ : Addr).add (0 * k)).add 0) = ⟨b, o, sp⟩ := by simp [Addr.add]
        rw [e] at h6
        unfold World.cell? at h6
        cases sp with
        | none => rfl
        | some q =>
          simp only [Option.isSome_some, if_true] at h6
          split at h6 <;> cases h6
      subst hsp
      have each : ∀ i, ∃ x : A, i < len → ∃ vs : List Value, vs.length = k ∧ R vs x ∧ At (allHp w) (.pointer (some ⟨b, o + i * k, none⟩)) vs := fun i => by
        by_cases hi : i < len
        · obtain ⟨vs, ⟨x, hx⟩, h4, h5⟩ := raw i hi
          have h6 := h5 0 k0
          simp only [Addr.add_lit] at h5 h6
          rw [List.getElem?_eq_getElem (by omega)] at h6
          obtain ⟨cs, T, fz, h7, h8⟩ := cellAt h6
          refine ⟨x, fun _ => ⟨vs, h4, hx, b, o + i * k, cs, T, fz, rfl, h7, fun j u hj => ?_⟩⟩
          have hjk : j < k := by rw [← h4]; exact (List.getElem?_eq_some_iff.1 hj).1
          have h9 := h5 j hjk
          rw [hj] at h9
          obtain ⟨cs', T', fz', h10, h11⟩ := cellAt h9
          rw [h7] at h10
          obtain ⟨rfl, _, _⟩ := by simpa using h10
          exact h11
        · obtain ⟨vs, ⟨x, hx⟩, _⟩ := raw 0 (by omega)
          exact ⟨x, fun h => absurd h hi⟩
      refine ⟨_, (List.range len).map (fun i => Classical.choose (each i)), rfl, some ⟨b, o, none⟩, cap, by simp, by simpa using hl, by simpa using hreach, fun i hi => ⟨b, o, rfl, ?_⟩⟩
      have hi' : i < len := by simpa using hi
      obtain ⟨vs, h1, h2, h3⟩ := Classical.choose_spec (each i) hi'
      exact ⟨vs, h1, by simpa using h2, h3⟩
theorem trod_byte {t : TypeId} {n : Nat} {vs : List Value} {y : DataW H × List MemPlace} (ht : P.underlying t = some (.int .u8)) (h : DataW.trod enc P w base spare held n t vs = some y) : ∃ a : Int, vs = [.int .u8 a] ∧ 0 ≤ a ∧ a < 256 := by
  obtain ⟨a, rfl⟩ := trod_int ht h
  refine ⟨a, rfl, ?_⟩
  cases n with
  | zero => simp [DataW.trod] at h
  | succ n =>
    unfold DataW.trod at h
    rw [ht] at h
    simp only at h
    split at h
    · rename_i hc
      have h2 := hc.2
      simp only [Lit.wf, Bool.and_eq_true, decide_eq_true_eq] at h2
      have e1 : IntKind.u8.min = 0 := rfl
      have e2 : IntKind.u8.max = 255 := rfl
      omega
    · cases h
theorem open_bytesA {t e : TypeId} {r : Reach} {b0 : Nat} {v : Value} {d : DataW H} {ps : List MemPlace} (ht : P.underlying t = some (.slice e)) (he : P.underlying e = some (.int .u8)) (hk : P.cellsOf e = 1) (hb : 0 < P.bytesOf e)
    (hval : Value.okWide P w r b0 t v) (h : DataW.Trod enc P w base spare held t v d ps) (hw : Wt P t d) : ∃ xs : List Int, Sl (allHp w) 1 (fun vs (n : Int) => vs = [.int .u8 n] ∧ 0 ≤ n ∧ n < 256) v xs := by
  obtain ⟨a, l, c, rfl⟩ := okWide_slice ht hval
  obtain ⟨n, h⟩ := h
  obtain ⟨v, xs, e, h1⟩ := trod_sl (R := fun vs (n : Int) => vs = [.int .u8 n] ∧ 0 ≤ n ∧ n < 256) ht hk (by decide) hb (fun _ _ _ _ h _ => trod_byte he h) h hw
  have : [Value.slice a l c] = [v] := e
  simp only [List.cons.injEq, and_true] at this
  exact ⟨xs, this ▸ h1⟩
theorem sameAt_of {W W' : World} (h : Ext NoX W W') {p : MemPlace} (hp : p.block < W.heap.size) : W.sameAt W' p := by
  cases p with
  | cell b o => exact World.cell?_of_block (w := W) (h.same b hp (fun x => x))
  | map b => exact h.same b hp (fun x => x)
theorem kept_of {W W' : World} (h : Ext NoX W W') (may : MemPlace → Prop) : W.keptBut W' may := by
  refine ⟨h.io.1, h.io.2, fun i hi => ?_⟩
  rw [h.same i hi (fun x => x)]
  split <;> simp_all
theorem trodAll_stays (hl : laidOutB P = true) {W W' : World} {sp : Nat → Bool} : ∀ {ts : List TypeId} {vs : List Value} {ds : List (DataW H)} {ps : List MemPlace},
    (∀ t ∈ ts, P.readableRec t = true ∧ t < P.types.size) → DataW.TrodAll enc P W 0 (fun _ => true) true ts vs ds ps → (∀ p ∈ ps, W.sameAt W' p) → (∀ p ∈ ps, sp p.block = true) → DataW.TrodAll enc P W' 0 sp true ts vs ds ps
  | [], vs, ds, ps, _, h, _, _ => by obtain ⟨rfl, rfl, rfl⟩ := trodAll_nil h; exact rfl
  | t :: ts, vs, ds, ps, hr, h, h1, h2 => by
    obtain ⟨v, vs, d, ds, p, q, rfl, rfl, rfl, h3, h4⟩ := trodAll_cons h
    exact ⟨p, q, WideElems.Trod_stays hl (hr t (.head _)).1 (hr t (.head _)).2 h3 (fun x hx => h1 x (List.mem_append_left _ hx)) (fun x hx => h2 x (List.mem_append_left _ hx)),
      trodAll_stays hl (fun t ht => hr t (.tail _ ht)) h4 (fun x hx => h1 x (List.mem_append_right _ hx)) (fun x hx => h2 x (List.mem_append_right _ hx)), rfl⟩
/-- A law that returned true and wrote nothing of what was there. -/
theorem post_true {f : Func} {s : ChangeSpec} {W W' : World} {args : Array Value} {ds gs : List (DataW H)} {before : List MemPlace} {tb : TypeId} (hl : laidOutB P = true)
    (hr : ∀ t ∈ f.params.toList, P.readableRec t = true ∧ t < P.types.size) (hv : s.vars = []) (ht : f.resultTypes = #[tb]) (hb : P.underlying tb = some .bool)
    (hW : DataW.Whole enc P f.params.toList s.vars false W args.toList ds gs before) (he : Ext NoX W W')
    (hres : (s.fn H (ds ++ gs)).results = [.lit (.bool true)]) (hargs : (s.fn H (ds ++ gs)).args = ds) (hvs : (s.fn H (ds ++ gs)).vars = []) :
    s.post enc P f false true false false W args (.bool true) W' := by
  have hW' := hW
  obtain ⟨p, q, hA, hV, rfl, _, _⟩ := hW
  rw [hv] at hV
  obtain ⟨rfl, rfl⟩ := trodVars_none hV
  have hlt := fun x hx => hW'.lt x hx
  refine ⟨ds, [], p ++ [], [], p, [], hW', ?_, ?_, ?_, kept_of he _, fun h => by cases h⟩
  · rw [hres, ht]
    exact trodAll_mk1 (shut_bool hb true)
  · rw [hargs]
    exact trodAll_stays hl hr hA (fun x hx => sameAt_of he (hlt x (by simpa using hx))) (fun x hx => by simpa using hlt x (by simpa using hx))
  · rw [hvs, hv]; exact rfl
end
end
section
open Go Go.ChangeShapes Go.WideShapes Go.ChangeAt Go.RowKit
theorem Tryz.own : ownKnob Tryz.prog.godebug = none := by kernel_rfl
theorem Tryz.laidOut : laidOutB Tryz.prog = true := by kernel_rfl
end
end Go.Proofs.YtolndgeihijlbaaGreat
