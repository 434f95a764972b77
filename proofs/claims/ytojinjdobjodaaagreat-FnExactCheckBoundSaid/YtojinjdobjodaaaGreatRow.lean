/- From the data of a statement to heaplets, and back. Conditions: none. -/
import Derived.Test.YtojinjdobjodaaaGreatPure
import Derived.ProofKit
import Derived.SizedLaws
import Derived.Test.YtojinjdobjodaaaGreatRows
namespace Go.Proofs.YtojinjdobjodaaaGreat
open Go Go.ChangeShapes Go.WideShapes Go.ChangeAt Go.RowKit
set_option linter.unusedSimpArgs false
set_option linter.unusedVariables false
/-- All of a world's memory. -/
def allHp (w : World) : Hp := fun b => w.heap[b]?
theorem agree_all (w : World) : Agree (allHp w) w := fun _ _ h => h
section
variable {H : Type} {enc : TypeId × Value → H} {P : Program} {w : World} {base : Nat} {spare : Nat → Bool} {held : Bool}
theorem cellAt {b o : Nat} {v : Value} (h : w.cell? ⟨b, o, none⟩ = some v) : ∃ cs T fz, w.heap[b]? = some (.cells cs T fz) ∧ cs[o]? = some v := by
  unfold World.cell? at h
  cases hh : w.heap[b]? with
  | none => simp [hh] at h
  | some ob =>
    cases ob with
    | cells cs T fz => simp [hh] at h; exact ⟨cs, T, fz, rfl, h⟩
    | map es c => simp [hh] at h
    | _ => simp [hh] at h
theorem trod_int {t : TypeId} {k : IntKind} {n : Nat} {vs : List Value} {y : DataW H × List MemPlace} (ht : P.underlying t = some (.int k)) (h : DataW.trod enc P w base spare held n t vs = some y) : ∃ a : Int, vs = [.int k a] := by
  cases n with
  | zero => simp [DataW.trod] at h
  | succ n =>
    unfold DataW.trod at h
    rw [ht] at h
    split at h <;> simp_all
/-- The reading fits into what an address can reach. -/
def Wt (P : Program) (t : TypeId) (d : DataW H) : Prop := (d.weights P t).all (· ≤ reachBytes) = true
theorem wtAll {e : TypeId} : ∀ {ds : List (DataW H)}, (DataW.weightsAll P e ds).all (· ≤ reachBytes) = true → ∀ d ∈ ds, Wt P e d
  | [], _, _, h => by cases h
  | d :: ds, hw, x, h => by
    simp only [DataW.weightsAll, List.all_append, Bool.and_eq_true] at hw
    cases h with
    | head => exact hw.1
    | tail _ h => exact wtAll hw.2 x h
theorem wt_slice {t e : TypeId} {ds sp : List (DataW H)} (ht : P.underlying t = some (.slice e)) (h : Wt P t (.slice ds sp)) : (ds.length + sp.length) * P.bytesOf e ≤ reachBytes ∧ ∀ d ∈ ds, Wt P e d := by
  unfold Wt DataW.weights at h
  rw [ht] at h
  simp only [List.all_cons, List.all_append, Bool.and_eq_true, decide_eq_true_eq] at h
  exact ⟨h.1, wtAll h.2.1⟩
theorem wtEach : ∀ {ts : List TypeId} {ds : List (DataW H)}, (DataW.weightsEach P ts ds).all (· ≤ reachBytes) = true → ∀ (i : Nat) (t : TypeId) (d : DataW H), ts[i]? = some t → ds[i]? = some d → Wt P t d
  | [], _, _, i, _, _, h, _ => by cases i <;> simp at h
  | _ :: _, [], _, i, _, _, _, h => by cases i <;> simp at h
  | t :: ts, d :: ds, hw, i, t', d', h1, h2 => by
    simp only [DataW.weightsEach, List.all_append, Bool.and_eq_true] at hw
    cases i with
    | zero => simp at h1 h2; subst h1 h2; exact hw.1
    | succ i => exact wtEach hw.2 i t' d' (by simpa using h1) (by simpa using h2)
theorem wt_struct {t : TypeId} {fs : Array Field} {ps : List (DataW H)} (ht : P.underlying t = some (.struct fs)) (h : Wt P t (.agg ps)) (i : Nat) (tt : TypeId) (d : DataW H) (h1 : (fs.toList.map (·.type))[i]? = some tt) (h2 : ps[i]? = some d) : Wt P tt d := by
  unfold Wt DataW.weights at h
  rw [ht] at h
  exact wtEach h i tt d h1 h2
theorem trod_sl {A : Type} {R : List Value → A → Prop} {t e : TypeId} {k fuel : Nat} {cs : List Value} {x : DataW H × List MemPlace} (ht : P.underlying t = some (.slice e)) (hk : P.cellsOf e = k) (k0 : 0 < k) (hb : 0 < P.bytesOf e)
    (hel : ∀ n vs y, vs.length = k → DataW.trod enc P w base spare held n e vs = some y → Wt P e y.1 → ∃ a : A, R vs a) (h : DataW.trod enc P w base spare held fuel t cs = some x) (hw : Wt P t x.1) :
    ∃ v xs, cs = [v] ∧ Sl (allHp w) k R v xs := by
  rcases DataW.trod_slice ht h with ⟨h0, _⟩ | ⟨a, len, cap, elems, rest, n, _, rfl, rfl, _, hl, hm, hlen, hE, _⟩
  · exact ⟨_, [], h0, Sl.nil⟩
  · rw [hk] at hE
    obtain ⟨hw1, hw2⟩ := wt_slice ht hw
    have hreach : len ≤ 140737488355328 := by
      simp only [List.length_map, hlen, reachBytes] at hw1
      have h1 : len * 1 ≤ (len + rest.length) * P.bytesOf e := Nat.mul_le_mul (by omega) hb
      omega
    obtain ⟨b, o, sp⟩ := a
    have raw : ∀ i, i < len → ∃ vs : List Value, (∃ x : A, R vs x) ∧ vs.length = k ∧ ∀ j, j < k → w.cell? (((⟨b, o, sp⟩ : Addr).add (i * k)).add j) = vs[j]? := fun i hi => by
      have h1 := hE i hi
      rw [List.getElem?_eq_getElem (by omega), Option.bind_eq_some_iff] at h1
      obtain ⟨vs, h2, h3⟩ := h1
      obtain ⟨_, h4, h5⟩ := World.cells?_some h2
      exact ⟨vs, hel _ _ _ h4 h3 (hw2 _ (List.mem_map.2 ⟨_, List.getElem_mem _, rfl⟩)), h4, h5⟩
    by_cases h0 : len = 0
    · subst h0
      exact ⟨_, [], rfl, some ⟨b, o, sp⟩, cap, rfl, Nat.zero_le _, Nat.zero_le _, fun i h => absurd h (Nat.not_lt_zero i)⟩
    · have hsp : sp = none := by
        obtain ⟨vs, _, h4, h5⟩ := raw 0 (by omega)
        have h6 := h5 0 k0
        rw [List.getElem?_eq_getElem (by omega)] at h6
        have e : (((⟨b, o, sp⟩ : Addr).add (0 * k)).add 0) = ⟨b, o, sp⟩ := by simp [Addr.add]
        rw [e] at h6
        unfold World.cell? at h6
        cases sp with
        | none => rfl
        | some q =>
          simp only [Option.isSome_some, if_true] at h6
          split at h6 <;> cases h6
      subst hsp
      have each : ∀ i, ∃ x : A, i < len → ∃ vs : List Value, vs.length = k ∧ R vs x ∧ At (allHp w) (.pointer (some ⟨b, o + i * k, none⟩)) vs := fun i => by
        by_cases hi : i < len
        · obtain ⟨vs, ⟨x, hx⟩, h4, h5⟩ := raw i hi
          have h6 := h5 0 k0
          simp only [Addr.add_lit] at h5 h6
          rw [List.getElem?_eq_getElem (by omega)] at h6
          obtain ⟨cs, T, fz, h7, h8⟩ := cellAt h6
          refine ⟨x, fun _ => ⟨vs, h4, hx, b, o + i * k, cs, T, fz, rfl, h7, fun j u hj => ?_⟩⟩
          have hjk : j < k := by rw [← h4]; exact (List.getElem?_eq_some_iff.1 hj).1
          have h9 := h5 j hjk
          rw [hj] at h9
          obtain ⟨cs', T', fz', h10, h11⟩ := cellAt h9
          rw [h7] at h10
          obtain ⟨rfl, _, _⟩ := by simpa using h10
          exact h11
        · obtain ⟨vs, ⟨x, hx⟩, _⟩ := raw 0 (by omega)
          exact ⟨x, fun h => absurd h hi⟩
      refine ⟨_, (List.range len).map (fun i => Classical.choose (each i)), rfl, some ⟨b, o, none⟩, cap, by simp, by simpa using hl, by simpa using hreach, fun i hi => ⟨b, o, rfl, ?_⟩⟩
      have hi' : i < len := by simpa using hi
      obtain ⟨vs, h1, h2, h3⟩ := Classical.choose_spec (each i) hi'
      exact ⟨vs, h1, by simpa using h2, h3⟩
theorem trod_ints {t e : TypeId} {fuel : Nat} {cs : List Value} {x : DataW H × List MemPlace} (ht : P.underlying t = some (.slice e)) (he : P.underlying e = some (.int .i64)) (hk : P.cellsOf e = 1) (hb : 0 < P.bytesOf e)
    (h : DataW.trod enc P w base spare held fuel t cs = some x) (hw : Wt P t x.1) : ∃ v xs, cs = [v] ∧ Ints (allHp w) v xs :=
  trod_sl ht hk (by decide) hb (fun _ _ _ _ h _ => trod_int he h) h hw
theorem trod_rows {t e e2 : TypeId} {fuel : Nat} {cs : List Value} {x : DataW H × List MemPlace} (ht : P.underlying t = some (.slice e)) (hk : P.cellsOf e = 1) (he : P.underlying e = some (.slice e2)) (he2 : P.underlying e2 = some (.int .i64)) (hk2 : P.cellsOf e2 = 1) (hb : 0 < P.bytesOf e) (hb2 : 0 < P.bytesOf e2)
    (h : DataW.trod enc P w base spare held fuel t cs = some x) (hw : Wt P t x.1) : ∃ v xs, cs = [v] ∧ Rows (allHp w) v xs :=
  trod_sl ht hk (by decide) hb (fun _ _ _ _ h hw => by obtain ⟨v, xs, h1, h2⟩ := trod_ints he he2 hk2 hb2 h hw; exact ⟨xs, v, h1, h2⟩) h hw
theorem trod_bool {t : TypeId} {n : Nat} {vs : List Value} {y : DataW H × List MemPlace} (ht : P.underlying t = some .bool) (h : DataW.trod enc P w base spare held n t vs = some y) : ∃ a : Bool, vs = [.bool a] := by
  cases n with
  | zero => simp [DataW.trod] at h
  | succ n =>
    unfold DataW.trod at h
    rw [ht] at h
    split at h <;> simp_all
/-- What the kit of a statement says of the program's types: a constraint (five fields), a model. -/
structure ConT (P : Program) (t ti tis tr : TypeId) : Prop where
  con : ∃ fs : Array Field, P.underlying t = some (.struct fs) ∧ (fs.toList.map fun f => (f.type, f.offset)) = [(ti, 0), (tis, 1), (tis, 2), (ti, 3), (tr, 4)]
  n : P.cellsOf t = 5
  i : P.underlying ti = some (.int .i64)
  ni : P.cellsOf ti = 1
  is : P.underlying tis = some (.slice ti)
  nis : P.cellsOf tis = 1
  r : P.underlying tr = some (.slice tis)
  nr : P.cellsOf tr = 1
  b : 0 < P.bytesOf t
  bi : 0 < P.bytesOf ti
  bis : 0 < P.bytesOf tis
theorem trod_con {t ti tis tr : TypeId} (T : ConT P t ti tis tr) {n : Nat} {vs : List Value} {y : DataW H × List MemPlace} (hl : vs.length = 5) (h : DataW.trod enc P w base spare held n t vs = some y) (hw : Wt P t y.1) : ∃ c : Con, ConV (allHp w) vs c := by
  obtain ⟨fs, h1, h2⟩ := T.con
  obtain ⟨xs, m, _, rfl, _, hx, hf⟩ := DataW.trod_struct h1 h
  have hfs : fs.toList.length = 5 := by have := congrArg List.length h2; simpa using this
  have get : ∀ i (tt : TypeId) (oo : Nat), ([(ti, 0), (tis, 1), (tis, 2), (ti, 3), (tr, 4)] : List (TypeId × Nat))[i]? = some (tt, oo) → P.cellsOf tt = 1 → ∃ y : DataW H × List MemPlace, DataW.trod enc P w base spare held m tt ((vs.drop oo).take 1) = some y ∧ Wt P tt y.1 := fun i tt oo hi hc => by
    rw [← h2, List.getElem?_map, Option.map_eq_some_iff] at hi
    obtain ⟨f, hf1, hf2⟩ := hi
    simp only [Prod.mk.injEq] at hf2
    obtain ⟨rfl, rfl⟩ := hf2
    have hf1' : fs[i]? = some f := by rw [← Array.getElem?_toList]; exact hf1
    have h4 := hf i f hf1'
    have hi5 : i < xs.length := by rw [hx]; exact (Array.getElem?_eq_some_iff.1 hf1').1
    rw [List.getElem?_eq_getElem hi5, hc] at h4
    exact ⟨_, h4, wt_struct h1 hw i _ _ (by rw [List.getElem?_map, hf1]; rfl) (by rw [List.getElem?_map, List.getElem?_eq_getElem hi5]; rfl)⟩
  match vs, hl with
  | [a, b, c, d, e], _ =>
    obtain ⟨y0, g0, k0⟩ := get 0 ti 0 rfl T.ni
    obtain ⟨y1, g1, k1⟩ := get 1 tis 1 rfl T.nis
    obtain ⟨y2, g2, k2⟩ := get 2 tis 2 rfl T.nis
    obtain ⟨y3, g3, k3⟩ := get 3 ti 3 rfl T.ni
    obtain ⟨y4, g4, k4⟩ := get 4 tr 4 rfl T.nr
    simp only [List.drop_zero, List.drop_succ_cons, List.take_succ_cons, List.take_zero] at g0 g1 g2 g3 g4
    obtain ⟨k, hk⟩ := trod_int T.i g0
    obtain ⟨v1, x1, e1, s1⟩ := trod_ints T.is T.i T.ni T.bi g1 k1
    obtain ⟨v2, x2, e2, s2⟩ := trod_ints T.is T.i T.ni T.bi g2 k2
    obtain ⟨q, hq⟩ := trod_int T.i g3
    obtain ⟨v4, x4, e4, s4⟩ := trod_rows T.r T.nis T.is T.i T.ni T.bis T.bi g4 k4
    simp only [List.cons.injEq, and_true] at hk hq e1 e2 e4
    subst hk hq e1 e2 e4
    exact ⟨⟨k, x1, x2, q, x4⟩, _, _, _, rfl, s1, s2, s4⟩
theorem trod_cons {t e ti tis tr : TypeId} (T : ConT P e ti tis tr) {fuel : Nat} {cs : List Value} {x : DataW H × List MemPlace} (ht : P.underlying t = some (.slice e))
    (h : DataW.trod enc P w base spare held fuel t cs = some x) (hw : Wt P t x.1) : ∃ v xs, cs = [v] ∧ Cons (allHp w) v xs :=
  trod_sl ht T.n (by decide) T.b (fun _ _ _ hl h hw => trod_con T hl h hw) h hw
structure ModT (P : Program) (t tcs tc ti tis tr : TypeId) : Prop where
  mod : ∃ fs : Array Field, P.underlying t = some (.struct fs) ∧ (fs.toList.map fun f => (f.type, f.offset)) = [(tis, 0), (tcs, 1)]
  n : P.cellsOf t = 2
  cs : P.underlying tcs = some (.slice tc)
  ncs : P.cellsOf tcs = 1
  c : ConT P tc ti tis tr
theorem trod_mod {t tcs tc ti tis tr : TypeId} (T : ModT P t tcs tc ti tis tr) {n : Nat} {vs : List Value} {y : DataW H × List MemPlace} (hl : vs.length = 2) (h : DataW.trod enc P w base spare held n t vs = some y) (hw : Wt P t y.1) :
    ∃ (m : Mod) (a b : Value), vs = [a, b] ∧ Ints (allHp w) a m.doms ∧ Cons (allHp w) b m.cons := by
  obtain ⟨fs, h1, h2⟩ := T.mod
  obtain ⟨xs, m, _, rfl, _, hx, hf⟩ := DataW.trod_struct h1 h
  have get : ∀ i (tt : TypeId) (oo : Nat), ([(tis, 0), (tcs, 1)] : List (TypeId × Nat))[i]? = some (tt, oo) → P.cellsOf tt = 1 → ∃ y : DataW H × List MemPlace, DataW.trod enc P w base spare held m tt ((vs.drop oo).take 1) = some y ∧ Wt P tt y.1 := fun i tt oo hi hc => by
    rw [← h2, List.getElem?_map, Option.map_eq_some_iff] at hi
    obtain ⟨f, hf1, hf2⟩ := hi
    simp only [Prod.mk.injEq] at hf2
    obtain ⟨rfl, rfl⟩ := hf2
    have hf1' : fs[i]? = some f := by rw [← Array.getElem?_toList]; exact hf1
    have h4 := hf i f hf1'
    have hi5 : i < xs.length := by rw [hx]; exact (Array.getElem?_eq_some_iff.1 hf1').1
    rw [List.getElem?_eq_getElem hi5, hc] at h4
    exact ⟨_, h4, wt_struct h1 hw i _ _ (by rw [List.getElem?_map, hf1]; rfl) (by rw [List.getElem?_map, List.getElem?_eq_getElem hi5]; rfl)⟩
  match vs, hl with
  | [a, b], _ =>
    obtain ⟨y0, g0, k0⟩ := get 0 tis 0 rfl T.c.nis
    obtain ⟨y1, g1, k1⟩ := get 1 tcs 1 rfl T.ncs
    simp only [List.drop_zero, List.drop_succ_cons, List.take_succ_cons, List.take_zero] at g0 g1
    obtain ⟨v0, x0, e0, s0⟩ := trod_ints T.c.is T.c.i T.c.ni T.c.bi g0 k0
    obtain ⟨v1, x1, e1, s1⟩ := trod_cons T.c T.cs g1 k1
    simp only [List.cons.injEq, and_true] at e0 e1
    subst e0 e1
    exact ⟨⟨x0, x1⟩, _, _, rfl, s0, s1⟩
theorem open_mod {t tcs tc ti tis tr : TypeId} (T : ModT P t tcs tc ti tis tr) {r : Reach} {b0 : Nat} {v : Value} {d : DataW H} {ps : List MemPlace} (hval : Value.okWide P w r b0 t v) (h : DataW.Trod enc P w base spare held t v d ps) (hw : Wt P t d) :
    ∃ (m : Mod) (a b : Value), v = .agg #[a, b] ∧ Ints (allHp w) a m.doms ∧ Cons (allHp w) b m.cons := by
  obtain ⟨fs, h1, h2⟩ := T.mod
  obtain ⟨cs, rfl, hn⟩ := okWide_struct h1 hval
  obtain ⟨n, h⟩ := h
  obtain ⟨m, a, b, e, h3, h4⟩ := trod_mod T (by rw [← T.n, ← hn]; rfl) h hw
  refine ⟨m, a, b, ?_, h3, h4⟩
  have : cs.toList = [a, b] := e
  rw [← Array.toArray_toList (xs := cs), this]
theorem open_intsA {t e : TypeId} {r : Reach} {b0 : Nat} {v : Value} {d : DataW H} {ps : List MemPlace} (ht : P.underlying t = some (.slice e)) (he : P.underlying e = some (.int .i64)) (hk : P.cellsOf e = 1) (hb : 0 < P.bytesOf e)
    (hval : Value.okWide P w r b0 t v) (h : DataW.Trod enc P w base spare held t v d ps) (hw : Wt P t d) : ∃ xs, Ints (allHp w) v xs := by
  obtain ⟨a, l, c, rfl⟩ := okWide_slice ht hval
  obtain ⟨n, h⟩ := h
  obtain ⟨v, xs, e, h1⟩ := trod_ints ht he hk hb h hw
  have : [Value.slice a l c] = [v] := e
  simp only [List.cons.injEq, and_true] at this
  exact ⟨xs, this ▸ h1⟩
theorem sameAt_of {W W' : World} (h : Ext NoX W W') {p : MemPlace} (hp : p.block < W.heap.size) : W.sameAt W' p := by
  cases p with
  | cell b o => exact World.cell?_of_block (w := W) (h.same b hp (fun x => x))
  | map b => exact h.same b hp (fun x => x)
theorem kept_of {W W' : World} (h : Ext NoX W W') (may : MemPlace → Prop) : W.keptBut W' may := by
  refine ⟨h.io.1, h.io.2, fun i hi => ?_⟩
  rw [h.same i hi (fun x => x)]
  split <;> simp_all
theorem trodAll_stays (hl : laidOutB P = true) {W W' : World} {sp : Nat → Bool} : ∀ {ts : List TypeId} {vs : List Value} {ds : List (DataW H)} {ps : List MemPlace},
    (∀ t ∈ ts, P.readableRec t = true ∧ t < P.types.size) → DataW.TrodAll enc P W 0 (fun _ => true) true ts vs ds ps → (∀ p ∈ ps, W.sameAt W' p) → (∀ p ∈ ps, sp p.block = true) → DataW.TrodAll enc P W' 0 sp true ts vs ds ps
  | [], vs, ds, ps, _, h, _, _ => by obtain ⟨rfl, rfl, rfl⟩ := trodAll_nil h; exact rfl
  | t :: ts, vs, ds, ps, hr, h, h1, h2 => by
    obtain ⟨v, vs, d, ds, p, q, rfl, rfl, rfl, h3, h4⟩ := trodAll_cons h
    exact ⟨p, q, WideElems.Trod_stays hl (hr t (.head _)).1 (hr t (.head _)).2 h3 (fun x hx => h1 x (List.mem_append_left _ hx)) (fun x hx => h2 x (List.mem_append_left _ hx)),
      trodAll_stays hl (fun t ht => hr t (.tail _ ht)) h4 (fun x hx => h1 x (List.mem_append_right _ hx)) (fun x hx => h2 x (List.mem_append_right _ hx)), rfl⟩
/-- A law that returned true and wrote nothing of what was there. -/
theorem post_true {f : Func} {s : ChangeSpec} {W W' : World} {args : Array Value} {ds gs : List (DataW H)} {before : List MemPlace} {tb : TypeId} (hl : laidOutB P = true)
    (hr : ∀ t ∈ f.params.toList, P.readableRec t = true ∧ t < P.types.size) (hv : s.vars = []) (ht : f.resultTypes = #[tb]) (hb : P.underlying tb = some .bool)
    (hW : DataW.Whole enc P f.params.toList s.vars false W args.toList ds gs before) (he : Ext NoX W W')
    (hres : (s.fn H (ds ++ gs)).results = [.lit (.bool true)]) (hargs : (s.fn H (ds ++ gs)).args = ds) (hvs : (s.fn H (ds ++ gs)).vars = []) :
    s.post enc P f false true false false W args (.bool true) W' := by
  have hW' := hW
  obtain ⟨p, q, hA, hV, rfl, _, _⟩ := hW
  rw [hv] at hV
  obtain ⟨rfl, rfl⟩ := trodVars_none hV
  have hlt := fun x hx => hW'.lt x hx
  refine ⟨ds, [], p ++ [], [], p, [], hW', ?_, ?_, ?_, kept_of he _, fun h => by cases h⟩
  · rw [hres, ht]
    exact trodAll_mk1 (shut_bool hb true)
  · rw [hargs]
    exact trodAll_stays hl hr hA (fun x hx => sameAt_of he (hlt x (by simpa using hx))) (fun x hx => by simpa using hlt x (by simpa using hx))
  · rw [hvs, hv]; exact rfl
end
end Go.Proofs.YtojinjdobjodaaaGreat
