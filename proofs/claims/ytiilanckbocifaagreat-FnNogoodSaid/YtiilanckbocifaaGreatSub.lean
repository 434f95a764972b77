/- x[i:], x[i:j] of fixed lists; equal literals. Conditions: none. -/
import Derived.Test.YtiilanckbocifaaGreatLit
import Derived.Laws.StructEq
namespace Go.Proofs.YtiilanckbocifaaGreat
open Go
set_option linter.unusedSimpArgs false
set_option linter.unusedVariables false
theorem Sl.dropR {A : Type} {H : Hp} {k : Nat} {R : List Value → A → Prop} {v : Value} {xs : List A} (hv : Sl H k R v xs) {j : Nat} (hj : j ≤ xs.length) :
    ∃ u, Sl H k R u (xs.drop j) ∧ ∀ (P : Program) (T E by' : Nat) (z : Value), IsSlice P T E k by' z → ∀ w, (Instr.sliceAt T v (some (.int .i64 (j : Int))) none none).run P w = .ok u w := by
  obtain ⟨a, c, rfl, h1, h2, h3⟩ := hv
  have hl : (xs.drop j).length = xs.length - j := by simp
  have hjc : j ≤ c := by omega
  have hel : ∀ i (hi : i < (xs.drop j).length), ∃ b o, a = some ⟨b, o, none⟩ ∧ ∃ vs, vs.length = k ∧ R vs (xs.drop j)[i] ∧ At H (.pointer (some ⟨b, (o + j * k) + i * k, none⟩)) vs := fun i hi => by
    obtain ⟨b, o, e, vs, l, r, t⟩ := h3 (j + i) (by omega)
    refine ⟨b, o, e, vs, l, by simpa using r, ?_⟩
    rw [Nat.add_mul, ← Nat.add_assoc] at t; exact t
  cases a with
  | none =>
    refine ⟨.slice none (xs.length - j) (c - j), ⟨none, c - j, by rw [hl], by omega, by omega, fun i hi => ?_⟩, fun P T E by' z hT w => ?_⟩
    · obtain ⟨b, o, e, _⟩ := hel i hi; cases e
    · simp [Instr.sliceAt, run_underlying hT.u, Instr.slice, Instr.sliceBounds, Instr.sliceBound, asIntOf, go_sem, sizeOf_run hT.size, hjc, hj]
  | some a =>
    refine ⟨.slice (some (if c = j then a else a.add (j * k))) (xs.length - j) (c - j), ⟨_, c - j, by rw [hl], by omega, by omega, fun i hi => ?_⟩, fun P T E by' z hT w => ?_⟩
    · obtain ⟨b, o, e, vs, l, r, t⟩ := hel i hi
      simp only [Option.some.injEq] at e
      subst e
      have hcj : c ≠ j := by omega
      exact ⟨b, o + j * k, by rw [if_neg hcj, Addr.add_lit], vs, l, r, t⟩
    · by_cases e : c = j
      · simp [Instr.sliceAt, run_underlying hT.u, Instr.slice, Instr.sliceBounds, Instr.sliceBound, asIntOf, go_sem, sizeOf_run hT.size, hjc, hj, e]
        try exact fun h => absurd rfl h
      · simp [Instr.sliceAt, run_underlying hT.u, Instr.slice, Instr.sliceBounds, Instr.sliceBound, asIntOf, go_sem, sizeOf_run hT.size, hjc, hj, e]
        try exact fun h => absurd h.symm e
theorem Sl.subR {A : Type} {H : Hp} {k : Nat} {R : List Value → A → Prop} {v : Value} {xs : List A} (hv : Sl H k R v xs) {i j : Nat} (hi : i ≤ j) (hj : j ≤ xs.length) :
    ∃ u, Sl H k R u ((xs.take j).drop i) ∧ ∀ (P : Program) (T E by' : Nat) (z : Value), IsSlice P T E k by' z → ∀ w, (Instr.sliceAt T v (some (.int .i64 (i : Int))) (some (.int .i64 (j : Int))) none).run P w = .ok u w := by
  obtain ⟨a, c, rfl, h1, h2, h3⟩ := hv
  have hl : ((xs.take j).drop i).length = j - i := by simp; omega
  have hjc : j ≤ c := by omega
  have hic : i ≤ c := by omega
  have hel : ∀ q (hq : q < ((xs.take j).drop i).length), ∃ b o, a = some ⟨b, o, none⟩ ∧ ∃ vs, vs.length = k ∧ R vs ((xs.take j).drop i)[q] ∧ At H (.pointer (some ⟨b, (o + i * k) + q * k, none⟩)) vs := fun q hq => by
    obtain ⟨b, o, e, vs, l, r, t⟩ := h3 (i + q) (by omega)
    refine ⟨b, o, e, vs, l, by simpa using r, ?_⟩
    rw [Nat.add_mul, ← Nat.add_assoc] at t; exact t
  cases a with
  | none =>
    refine ⟨.slice none (j - i) (c - i), ⟨none, c - i, by rw [hl], by omega, by omega, fun q hq => ?_⟩, fun P T E by' z hT w => ?_⟩
    · obtain ⟨b, o, e, _⟩ := hel q hq; cases e
    · simp [Instr.sliceAt, run_underlying hT.u, Instr.slice, Instr.sliceBounds, Instr.sliceBound, asIntOf, go_sem, sizeOf_run hT.size, hjc, hic, hi]
  | some a =>
    refine ⟨.slice (some (if c = i then a else a.add (i * k))) (j - i) (c - i), ⟨_, c - i, by rw [hl], by omega, by omega, fun q hq => ?_⟩, fun P T E by' z hT w => ?_⟩
    · obtain ⟨b, o, e, vs, l, r, t⟩ := hel q hq
      simp only [Option.some.injEq] at e
      subst e
      have hci : c ≠ i := by omega
      exact ⟨b, o + i * k, by rw [if_neg hci, Addr.add_lit], vs, l, r, t⟩
    · by_cases e : c = i
      · simp [Instr.sliceAt, run_underlying hT.u, Instr.slice, Instr.sliceBounds, Instr.sliceBound, asIntOf, go_sem, sizeOf_run hT.size, hjc, hic, hi, e]
        try exact fun h => absurd h (by omega)
      · simp [Instr.sliceAt, run_underlying hT.u, Instr.slice, Instr.sliceBounds, Instr.sliceBound, asIntOf, go_sem, sizeOf_run hT.size, hjc, hic, hi, e]
        try exact fun h => absurd h.symm e
class LitE (P : Program) (T : Nat) : Prop where
  f : ∃ a b c, P.underlying T = some (.struct (P.fieldsOf T)) ∧ ((P.fieldsOf T).toList.map fun f => (f.type, f.offset, decide (f.name ≠ "_"))) = [(a, 0, true), (b, 1, true), (c, 2, true)] ∧ P.underlying a = some (.int .i64) ∧ P.underlying b = some (.int .i64) ∧ P.underlying c = some .bool ∧
    (P.info? a).map (·.size) = some 1 ∧ (P.info? b).map (·.size) = some 1 ∧ (P.info? c).map (·.size) = some 1
  s : P.stoodInHeld T = false
  g : P.eqGuardType P.depth T = false
section subs
variable {C : Cx} {dr : Bool} {ops : Array Oper} {Q : Post} {ims L : List Hp} {G : Env} {fl : List Bool} {rest : List Oper}
  {d ty : Nat} {pos : String} {af : Array Edge}
theorem kl_slDrop {A : Type} {H : Hp} {k : Nat} {R : List Value → A → Prop} {v : Value} {xs : List A} {x y : Operand} {j : Nat} {T E by' : Nat} {z : Value} [hT : IsSlice C.P T E k by' z]
    (hx : ev G x = some v) (hy : ev G y = some (.int .i64 (j : Int))) (hv : Sl H k R v xs) (h1 : j ≤ xs.length)
    (h : ∀ u, Sl H k R u (xs.drop j) → KL C dr ops Q ims L fl.tail rest ((d, u) :: G)) (hlt : Nat.blt d C.n = true := by rfl) :
    KL C dr ops Q ims L fl (⟨some d, .slice T x (some y) none none, ty, pos, af, none⟩ :: rest) G := by
  obtain ⟨u, hu, hrun⟩ := hv.dropR h1
  refine kl_y (fun r w hr _ => ?_) (h u hu) hlt
  simp only [execOp, Sem.run_bind, hr _ _ hx, hr _ _ hy, Option.map_some, Option.map_none, hrun C.P T E by' z hT, Result.andThen_ok, Sem.run_pure]
theorem kl_slSub {A : Type} {H : Hp} {k : Nat} {R : List Value → A → Prop} {v : Value} {xs : List A} {x y y2 : Operand} {i j : Nat} {T E by' : Nat} {z : Value} [hT : IsSlice C.P T E k by' z]
    (hx : ev G x = some v) (hy : ev G y = some (.int .i64 (i : Int))) (hy2 : ev G y2 = some (.int .i64 (j : Int))) (hv : Sl H k R v xs) (h0 : i ≤ j) (h1 : j ≤ xs.length)
    (h : ∀ u, Sl H k R u ((xs.take j).drop i) → KL C dr ops Q ims L fl.tail rest ((d, u) :: G)) (hlt : Nat.blt d C.n = true := by rfl) :
    KL C dr ops Q ims L fl (⟨some d, .slice T x (some y) (some y2) none, ty, pos, af, none⟩ :: rest) G := by
  obtain ⟨u, hu, hrun⟩ := hv.subR h0 h1
  refine kl_y (fun r w hr _ => ?_) (h u hu) hlt
  simp only [execOp, Sem.run_bind, hr _ _ hx, hr _ _ hy, hr _ _ hy2, Option.map_some, Option.map_none, hrun C.P T E by' z hT, Result.andThen_ok, Sem.run_pure]
theorem part_one {P : Program} {t : Nat} {xs : Array Value} {o : Nat} {v : Value} (hs : (P.info? t).map (·.size) = some 1) (ha : ∀ w, (isAgg t).run P w = .ok false w) (hv : xs[o]? = some v) (w : World) : (part t xs o).run P w = .ok v w := by
  have hlt := (Array.getElem?_eq_some_iff.1 hv).1
  have hve := (Array.getElem?_eq_some_iff.1 hv).2
  simp [part, go_sem, sizeOf_run hs, ha, hlt, hve]
theorem agg_int {P : Program} {t : Nat} (h : P.underlying t = some (.int .i64)) (w : World) : (isAgg t).run P w = .ok false w := by simp [isAgg, run_underlying h]
theorem agg_bool {P : Program} {t : Nat} (h : P.underlying t = some .bool) (w : World) : (isAgg t).run P w = .ok false w := by simp [isAgg, run_underlying h]
theorem eqLit_run {P : Program} {T : Nat} [h : LitE P T] (a1 a2 b1 b2 : Int) (a3 b3 : Bool) (w : World) : (Op.equalIn 10000 T (.agg #[.int .i64 a1, .int .i64 a2, .bool a3]) (.agg #[.int .i64 b1, .int .i64 b2, .bool b3])).run P w = .ok (decide ((⟨a1, a2, a3⟩ : Lit) = ⟨b1, b2, b3⟩)) w := by
  obtain ⟨a, b, c, hu, hf, ha, hb, hc, sa, sb, sc⟩ := h.f
  rw [run_equalIn_struct w 9999 T _ _ hu h.s]
  have hl3 : (P.fieldsOf T).toList.length = 3 := by have := congrArg List.length hf; simpa using this
  generalize (P.fieldsOf T).toList = fs at hf hl3 ⊢
  match fs, hl3 with
  | [f1, f2, f3], _ =>
    simp only [List.map_cons, List.map_nil, List.cons.injEq, Prod.mk.injEq, and_true, decide_eq_true_eq] at hf
    obtain ⟨⟨t1, o1, n1⟩, ⟨t2, o2, n2⟩, ⟨t3, o3, n3⟩⟩ := hf
    have e : decide ((⟨a1, a2, a3⟩ : Lit) = ⟨b1, b2, b3⟩) = ((a1 == b1) && ((a2 == b2) && (a3 == b3))) := by
      rw [Bool.eq_iff_iff]; simp
    rw [e]
    simp only [Op.eqFields, if_pos n1, if_pos n2, if_pos n3, Sem.run_bind, t1, t2, t3, o1, o2, o3,
      part_one sa (agg_int ha) (show (#[Value.int .i64 a1, Value.int .i64 a2, Value.bool a3])[0]? = some (Value.int .i64 a1) from rfl), part_one sa (agg_int ha) (show (#[Value.int .i64 b1, Value.int .i64 b2, Value.bool b3])[0]? = some (Value.int .i64 b1) from rfl), Result.andThen_ok, run_equalIn_int w 9998 a .i64 .i64 a1 b1 ha]
    cases (a1 == b1) with
    | false => rfl
    | true =>
      simp only [Bool.not_true, Bool.false_eq_true, if_false, Bool.true_and, Sem.run_bind, part_one sb (agg_int hb) (show (#[Value.int .i64 a1, Value.int .i64 a2, Value.bool a3])[1]? = some (Value.int .i64 a2) from rfl), part_one sb (agg_int hb) (show (#[Value.int .i64 b1, Value.int .i64 b2, Value.bool b3])[1]? = some (Value.int .i64 b2) from rfl), Result.andThen_ok, run_equalIn_int w 9998 b .i64 .i64 a2 b2 hb]
      cases (a2 == b2) with
      | false => rfl
      | true =>
        simp only [Bool.not_true, Bool.false_eq_true, if_false, Bool.true_and, Sem.run_bind, part_one sc (agg_bool hc) (show (#[Value.int .i64 a1, Value.int .i64 a2, Value.bool a3])[2]? = some (Value.bool a3) from rfl), part_one sc (agg_bool hc) (show (#[Value.int .i64 b1, Value.int .i64 b2, Value.bool b3])[2]? = some (Value.bool b3) from rfl), Result.andThen_ok, run_equalIn_bool' w 9998 c a3 b3 hc]
        cases (a3 == b3) <;> rfl
theorem kl_eqlQ {x y : Operand} {T T2 : Nat} {a1 a2 b1 b2 : Int} {a3 b3 : Bool} [hT : LitE C.P T] (hx : ev G x = some (.agg #[.int .i64 a1, .int .i64 a2, .bool a3])) (hy : ev G y = some (.agg #[.int .i64 b1, .int .i64 b2, .bool b3]))
    (h : KL C dr ops Q ims L fl.tail rest ((d, .bool (decide ((⟨a1, a2, a3⟩ : Lit) = ⟨b1, b2, b3⟩))) :: G)) (hlt : Nat.blt d C.n = true := by rfl) :
    KL C dr ops Q ims L fl (⟨some d, .binOp .eql T x y T2, ty, pos, af, none⟩ :: rest) G :=
  kl_y (fun r w hr _ => by
    simp only [execOp, Sem.run_bind, Sem.run_pure, Result.andThen_ok, hr _ _ hx, hr _ _ hy, run_eqGuard_agg w _ _ _ _ _ _ hT.g, run_eql_struct, eqLit_run]) h hlt
theorem kl_neqQ {x y : Operand} {T T2 : Nat} {a1 a2 b1 b2 : Int} {a3 b3 : Bool} [hT : LitE C.P T] (hx : ev G x = some (.agg #[.int .i64 a1, .int .i64 a2, .bool a3])) (hy : ev G y = some (.agg #[.int .i64 b1, .int .i64 b2, .bool b3]))
    (h : KL C dr ops Q ims L fl.tail rest ((d, .bool (!(decide ((⟨a1, a2, a3⟩ : Lit) = ⟨b1, b2, b3⟩)))) :: G)) (hlt : Nat.blt d C.n = true := by rfl) :
    KL C dr ops Q ims L fl (⟨some d, .binOp .neq T x y T2, ty, pos, af, none⟩ :: rest) G :=
  kl_y (fun r w hr _ => by
    simp only [execOp, Sem.run_bind, Sem.run_pure, Result.andThen_ok, hr _ _ hx, hr _ _ hy, run_eqGuard_agg w _ _ _ _ _ _ hT.g, run_neq_struct, eqLit_run]) h hlt
/-- One literal in a list that is written out: owned memory. -/
theorem kl_bsQo {a b : Int} {c : Bool} {T E by' : Nat} {z : Value} [hT : IsSlice C.P T E 3 by' z] {ps : List (Nat × Operand)} (hp : evp G ps = some [(0, .agg #[.int .i64 a, .int .i64 b, .bool c])])
    (h : ∀ v H, Fr C.B H → OwnL E 3 H noHp LitV v [⟨a, b, c⟩] → KL C dr ops Q ims (H :: L) fl.tail rest ((d, v) :: G)) (hlt : Nat.blt d C.n = true := by rfl) (hfl : fl.headD false = false := by rfl) :
    KL C dr ops Q ims L fl (⟨some d, .buildSlice T 1 ps.toArray, ty, pos, af, none⟩ :: rest) G := by
  refine kl_new (v := fun b => .slice (some ⟨b, 0, none⟩) 1 1) (o := .cells #[.int .i64 a, .int .i64 b, .bool c] E) (fun r w hr => ?_) (fun q hb => h _ _ (fr_sing hb) ⟨[.int .i64 a, .int .i64 b, .bool c], ⟨rfl, by simp, .inr ⟨q, 1, _, rfl, Nat.le_refl _, by simp only [maxLen]; omega, Nat.le_refl _, rfl, rfl⟩⟩, fun i hi => ?_⟩) hlt hfl
  · have hps := evp_run hr hp
    have hz := hT.z
    have hzv : (zeroValue E).run C.P w = .ok z w := zeroValue_run (by obtain ⟨i, hi, hz', _⟩ := hT.info; simp [hi, hz']) w
    have key : (Instr.buildSlice T 1 [((0 : Nat), Value.agg #[.int .i64 a, .int .i64 b, .bool c])].toArray).run C.P w = .ok (.slice (some ⟨w.heap.size, 0, none⟩) 1 1) (w.alloc (.cells #[.int .i64 a, .int .i64 b, .bool c] E)) := by
      have hff := fill_three (a := .int .i64 a) (b := .int .i64 b) (c := .bool c) (cells := (Array.range (1 * 3)).map (z.cells[· % z.cells.size]!)) (by simp)
      simp only [Instr.buildSlice, Sem.run_bind, run_underlying hT.u, Result.andThen_ok, sizeOf_run hT.size]
      rw [if_neg (by decide), if_neg (by decide)]
      simp only [Sem.run_bind, hzv, Result.andThen_ok, Sem.run_pure, hff]
      rfl
    simp only [execOp, Sem.run_bind, List.map_toArray, hps, key, Result.andThen_ok, Sem.run_pure]
  · have hi0 : i = 0 := by simpa using hi
    subst hi0; rfl
end subs
end Go.Proofs.YtiilanckbocifaaGreat
