/- Literals (three cells each) in lists, and a map with one entry under a boolean key. Conditions: none. -/
import Derived.Test.YtojinjdobjodaaaGreatRdr
import Derived.Test.YtojinjdobjodaaaGreatCut
import Derived.MapKept
namespace Go.Proofs.YtojinjdobjodaaaGreat
open Go
set_option linter.unusedSimpArgs false
set_option linter.unusedVariables false
structure Lit where
  var : Int
  val : Int
  neg : Bool
def nilLit : Lit := ⟨0, 0, false⟩
theorem lit_ext {a b : Lit} : a = b ↔ a.var = b.var ∧ a.val = b.val ∧ a.neg = b.neg := by cases a; cases b; simp
instance : DecidableEq Lit := fun a b => decidable_of_iff _ lit_ext.symm
def LitC (vs : List Value) (l : Lit) : Prop := vs = [.int .i64 l.var, .int .i64 l.val, .bool l.neg]
def LitV : Rel Lit := fun _ vs l => LitC vs l
instance : RMono LitV := ⟨fun _ h => h⟩
instance : ROne LitV := ⟨fun h u hu => by
  have h : _ = _ := h
  subst h
  simp only [List.mem_cons, List.not_mem_nil, or_false] at hu
  rcases hu with rfl | rfl | rfl <;> rfl⟩
abbrev Lits (H : Hp) (v : Value) (xs : List Lit) : Prop := Sl H 3 LitC v xs
theorem OwnL.lits {E : Nat} {H K : Hp} {v : Value} {xs : List Lit} (h : OwnL E 3 H K LitV v xs) : Lits H v xs := h.sl (fun _ _ h => h) (fun _ _ h => h)
theorem OwnL.atQ {E i : Nat} {H K : Hp} {v p : Value} {xs : List Lit} (hv : OwnL E 3 H K LitV v xs) (hp : PtrL 3 v p i) (hi : i < xs.length) :
    At H p [.int .i64 (xs.getD i nilLit).var, .int .i64 (xs.getD i nilLit).val, .bool (xs.getD i nilLit).neg] := by
  obtain ⟨cs, ⟨hl, hb, ho⟩, hR⟩ := hv
  have e : (cs.drop (i * 3)).take 3 = [.int .i64 (xs[i]).var, .int .i64 (xs[i]).val, .bool (xs[i]).neg] := hR i hi
  have ex : xs.getD i nilLit = xs[i] := by simp [List.getD_eq_getElem?_getD, hi]
  rw [ex]
  obtain ⟨b0, n0, c0, rfl, rfl⟩ := hp
  rcases ho with ⟨_, _, h0, _⟩ | ⟨b1, c, cur, h1, h2, h4, h5, h6, rfl⟩
  · omega
  · simp only [Value.slice.injEq, Option.some.injEq, Addr.mk.injEq, and_true] at h1
    obtain ⟨rfl, rfl, rfl⟩ := h1
    refine ⟨b0, i * 3, cur, E, (0, 0), rfl, by simp, fun j u hj => ?_⟩
    rw [← e, List.getElem?_take] at hj
    split at hj
    · rename_i hj3
      rw [List.getElem?_drop, ← h6, List.getElem?_take] at hj
      split at hj
      · rw [← Array.getElem?_toList]; exact hj
      · cases hj
    · cases hj
section lits
variable {C : Cx} {dr : Bool} {ops : Array Oper} {Q : Post} {ims L : List Hp} {G : Env} {fl : List Bool} {rest : List Oper}
  {d ty : Nat} {pos : String} {af : Array Edge} {T E by' : Nat} {z : Value} {x y : Operand}
theorem kl_inQ {H : Hp} {v : Value} {xs : List Lit} {i : Nat} [hT : IsSlice C.P T E 3 by' z] (hx : ev G x = some v) (hy : ev G y = some (.int .i64 (i : Int))) (hv : Lits H v xs) (h1 : i < xs.length)
    (h : ∀ p, At H p [.int .i64 (xs.getD i nilLit).var, .int .i64 (xs.getD i nilLit).val, .bool (xs.getD i nilLit).neg] → KL C dr ops Q ims L fl.tail rest ((d, p) :: G)) (hlt : Nat.blt d C.n = true := by rfl) :
    KL C dr ops Q ims L fl (⟨some d, .indexAddr T x y, ty, pos, af, none⟩ :: rest) G :=
  kl_ix hx hy hv (by omega) (by omega) (fun p vs hR hat => by
    have e := hR nilLit
    unfold LitC at e; subst e
    exact h p hat) hlt
theorem kl_ixQ {H : Hp} {v : Value} {xs : List Lit} {i : Int} [hT : IsSlice C.P T E 3 by' z] (hx : ev G x = some v) (hy : ev G y = some (.int .i64 i)) (hv : Lits H v xs) (h0 : 0 ≤ i) (h1 : i < xs.length)
    (h : ∀ p, At H p [.int .i64 (xs.getD i.toNat nilLit).var, .int .i64 (xs.getD i.toNat nilLit).val, .bool (xs.getD i.toNat nilLit).neg] → KL C dr ops Q ims L fl.tail rest ((d, p) :: G)) (hlt : Nat.blt d C.n = true := by rfl) :
    KL C dr ops Q ims L fl (⟨some d, .indexAddr T x y, ty, pos, af, none⟩ :: rest) G :=
  kl_ix hx hy hv h0 h1 (fun p vs hR hat => by
    have e := hR nilLit
    unfold LitC at e; subst e
    exact h p hat) hlt
theorem fill_three {a b c : Value} : ∀ {cells : Array Value}, cells.size = 3 → Instr.fill (fun i => some (i * 3, 3)) cells [(0, .agg #[a, b, c])] = some #[a, b, c]
  | ⟨[c0, c1, c2]⟩, _ => rfl
/-- One literal in a list that is written out: fixed memory. -/
theorem kl_bsQ {a b : Int} {c : Bool} [hT : IsSlice C.P T E 3 by' z] {ps : List (Nat × Operand)} (hp : evp G ps = some [(0, .agg #[.int .i64 a, .int .i64 b, .bool c])])
    (h : ∀ v H, Fr C.B H → Rd H 3 v 1 [.int .i64 a, .int .i64 b, .bool c] → Lits H v [⟨a, b, c⟩] → KL C dr ops Q (H :: ims) L fl.tail rest ((d, v) :: G)) (hlt : Nat.blt d C.n = true := by rfl) (hfl : fl.headD false = false := by rfl) :
    KL C dr ops Q ims L fl (⟨some d, .buildSlice T 1 ps.toArray, ty, pos, af, none⟩ :: rest) G := by
  refine kl_newI (v := fun b => .slice (some ⟨b, 0, none⟩) 1 1) (o := .cells #[.int .i64 a, .int .i64 b, .bool c] E) (fun r w hr => ?_) (fun q hb => h _ _ (fr_sing hb) ?_ ?_) hlt hfl
  · have hps := evp_run hr hp
    have hz := hT.z
    have hzv : (zeroValue E).run C.P w = .ok z w := zeroValue_run (by obtain ⟨i, hi, hz', _⟩ := hT.info; simp [hi, hz']) w
    have key : (Instr.buildSlice T 1 [((0 : Nat), Value.agg #[.int .i64 a, .int .i64 b, .bool c])].toArray).run C.P w = .ok (.slice (some ⟨w.heap.size, 0, none⟩) 1 1) (w.alloc (.cells #[.int .i64 a, .int .i64 b, .bool c] E)) := by
      have hff := fill_three (a := .int .i64 a) (b := .int .i64 b) (c := .bool c) (cells := (Array.range (1 * 3)).map (z.cells[· % z.cells.size]!)) (by simp)
      simp only [Instr.buildSlice, Sem.run_bind, run_underlying hT.u, Result.andThen_ok, sizeOf_run hT.size]
      rw [if_neg (by decide), if_neg (by decide)]
      simp only [Sem.run_bind, hzv, Result.andThen_ok, Sem.run_pure, hff]
      rfl
    simp only [execOp, Sem.run_bind, List.map_toArray, hps, key, Result.andThen_ok, Sem.run_pure]
  · exact ⟨some ⟨q, 0, none⟩, 1, rfl, by simp, fun j u hj => ⟨q, 0, #[.int .i64 a, .int .i64 b, .bool c], E, (0, 0), rfl, by simp, by simpa using hj⟩⟩
  · refine ⟨some ⟨q, 0, none⟩, 1, rfl, by simp, by simp, fun i hi => ?_⟩
    have hi0 : i = 0 := by simpa using hi
    subst hi0
    exact ⟨q, 0, rfl, [.int .i64 a, .int .i64 b, .bool c], rfl, rfl, q, 0, #[.int .i64 a, .int .i64 b, .bool c], E, (0, 0), by simp, by simp, fun j u hj => by simpa using hj⟩
end lits
/-! A map with one entry. -/
class MapBI (P : Program) (T : Nat) : Prop where
  m : ∃ K E, P.underlying T = some (.map K E) ∧ P.underlying K = some .bool ∧ (P.info? E).map (·.zero) = some (some (.int .i64 0))
section maps
variable {C : Cx} {dr : Bool} {ops : Array Oper} {Q : Post} {ims L : List Hp} {G : Env} {fl : List Bool} {rest : List Oper}
  {d ty : Nat} {pos : String} {af : Array Edge} {T : Nat} {x y u : Operand}
theorem kl_mkMap (h : ∀ b, C.B.heap.size ≤ b → KL C dr ops Q ims (sing b (.map #[] 0) :: L) fl.tail rest ((d, .map (some b)) :: G)) (hlt : Nat.blt d C.n = true := by rfl) (hfl : fl.headD false = false := by rfl) :
    KL C dr ops Q ims L fl (⟨some d, .makeMap T none, ty, pos, af, none⟩ :: rest) G :=
  kl_new (v := fun b => .map (some b)) (fun r w hr => by
    simp only [execOp, Instr.makeMap, newObj, Option.map_none, Sem.run_bind, Sem.run_pure, Result.andThen_ok]
    rfl) h hlt hfl
theorem kl_insB {b : Nat} {k : Bool} {v : Value} {F : Hp → List Hp} [hT : MapBI C.P T] [hF : UpdF (sing b (.map #[] 0)) L F] (hx : ev G x = some (.map (some b))) (hy : ev G y = some (.bool k)) (hu : ev G u = some v)
    (h : KL C dr ops Q ims (F (sing b (.map #[⟨.bool k, v, 0⟩] 1))) fl.tail rest G) (hfl : fl.headD false = false := by rfl) (hdr : (!dr || rest.isEmpty) = true := by rfl) :
    KL C dr ops Q ims L fl (⟨none, .insert T x y u, ty, pos, af, none⟩ :: rest) G :=
  kl_act rfl hfl fun a w hf hs' => by
    have hup := hF.u (sing b (.map #[⟨.bool k, v, 0⟩] 1))
    have hown := hs'.own _ hup.mem
    have hb := hown.1 b _ (sing_self _ _)
    obtain ⟨K, E, h1, h2, h3⟩ := hT.m
    have hrun : (execOp a.eval ⟨none, .insert T x y u, ty, pos, af, none⟩).run C.P w = .ok .skip { w with heap := w.heap.setIfInBounds b (.map #[⟨.bool k, v, 0⟩] 1) } := by
      have hk : (Instr.findKey K (.bool k) []).run C.P w = .ok none w := MapKept.run_findKey h2 rfl
      simp [execOp, Instr.mapUpdate, Sem.run_bind, hf.ev hx, hf.ev hy, hf.ev hu, run_underlying h1, MapKept.run_getObj_map hb, MapKept.run_checkKey h2 (show MapKept.IsKey .bool (.bool k) from trivial), hk, MapKept.run_setObj_map _ hb, Result.andThen]
    unfold Oper.wp
    rw [hrun]
    refine ⟨ims, _, G, ?_, hf.putNone, ?_, h⟩
    · cases dr with
      | true => left; simpa using hdr
      | false => right; intro e; cases e
    · refine hs'.upd (u := ⟨hup⟩) (by simp) (fun b' _ hn => ?_) (fun b' o' hb' => ?_) (fun b' hb' => .inl ?_) ⟨rfl, rfl⟩
      · have hne : b' ≠ b := fun e => by subst e; simp at hn
        exact (MapKept.heap_set hb).2 b' hne
      · obtain ⟨rfl, rfl⟩ := sing_some hb'
        exact (MapKept.heap_set hb).1
      · by_cases e : b' = b
        · subst e; simp
        · simp [sing, e] at hb'
theorem kl_lkB {b : Nat} {k : Bool} [hT : MapBI C.P T] [hi : In (sing b (.map #[⟨.bool true, .int .i64 1, 0⟩] 1)) ims] (hx : ev G x = some (.map (some b))) (hy : ev G y = some (.bool k))
    (h : KL C dr ops Q ims L fl.tail rest ((d, .int .i64 (if k = true then 1 else 0)) :: G)) (hlt : Nat.blt d C.n = true := by rfl) :
    KL C dr ops Q ims L fl (⟨some d, .lookup T x y false, ty, pos, af, none⟩ :: rest) G :=
  kl_y (fun r w hr hs => by
    have hb := hs.im _ hi.mem b _ (sing_self _ _)
    obtain ⟨K, E, h1, h2, h3⟩ := hT.m
    cases k with
    | true =>
      have hk : (Instr.findKey K (.bool true) [⟨.bool true, .int .i64 1, 0⟩]).run C.P w = .ok (some (0, .int .i64 1)) w := MapKept.run_findKey h2 rfl
      simp [execOp, Instr.lookup, Sem.run_bind, hr _ _ hx, hr _ _ hy, run_underlying h1, MapKept.run_getObj_map hb, MapKept.run_checkKey h2 (show MapKept.IsKey .bool (.bool true) from trivial), hk, Result.andThen]
    | false =>
      have hk : (Instr.findKey K (.bool false) [⟨.bool true, .int .i64 1, 0⟩]).run C.P w = .ok none w := MapKept.run_findKey h2 rfl
      simp [execOp, Instr.lookup, Sem.run_bind, hr _ _ hx, hr _ _ hy, run_underlying h1, MapKept.run_getObj_map hb, MapKept.run_checkKey h2 (show MapKept.IsKey .bool (.bool false) from trivial), hk, zeroValue_run h3, Result.andThen]) h hlt
end maps
end Go.Proofs.YtojinjdobjodaaaGreat
