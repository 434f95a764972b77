/- x[i:], x[i:j] of fixed lists; equal literals. Conditions: none. -/
import Derived.Test.YtojinjdobjodaaaGreatLit
import Derived.Laws.StructEq
namespace Go.Proofs.YtojinjdobjodaaaGreat
open Go
set_option linter.unusedSimpArgs false
set_option linter.unusedVariables false
class LitE (P : Program) (T : Nat) : Prop where
  f : ∃ a b c, P.underlying T = some (.struct (P.fieldsOf T)) ∧ ((P.fieldsOf T).toList.map fun f => (f.type, f.offset, decide (f.name ≠ "_"))) = [(a, 0, true), (b, 1, true), (c, 2, true)] ∧ P.underlying a = some (.int .i64) ∧ P.underlying b = some (.int .i64) ∧ P.underlying c = some .bool ∧
    (P.info? a).map (·.size) = some 1 ∧ (P.info? b).map (·.size) = some 1 ∧ (P.info? c).map (·.size) = some 1
  s : P.stoodInHeld T = false
  g : P.eqGuardType P.depth T = false
section subs
variable {C : Cx} {dr : Bool} {ops : Array Oper} {Q : Post} {ims L : List Hp} {G : Env} {fl : List Bool} {rest : List Oper}
  {d ty : Nat} {pos : String} {af : Array Edge}
theorem part_one {P : Program} {t : Nat} {xs : Array Value} {o : Nat} {v : Value} (hs : (P.info? t).map (·.size) = some 1) (ha : ∀ w, (isAgg t).run P w = .ok false w) (hv : xs[o]? = some v) (w : World) : (part t xs o).run P w = .ok v w := by
  have hlt := (Array.getElem?_eq_some_iff.1 hv).1
  have hve := (Array.getElem?_eq_some_iff.1 hv).2
  simp [part, go_sem, sizeOf_run hs, ha, hlt, hve]
theorem agg_int {P : Program} {t : Nat} (h : P.underlying t = some (.int .i64)) (w : World) : (isAgg t).run P w = .ok false w := by simp [isAgg, run_underlying h]
theorem agg_bool {P : Program} {t : Nat} (h : P.underlying t = some .bool) (w : World) : (isAgg t).run P w = .ok false w := by simp [isAgg, run_underlying h]
theorem eqLit_run {P : Program} {T : Nat} [h : LitE P T] (a1 a2 b1 b2 : Int) (a3 b3 : Bool) (w : World) : (Op.equalIn 10000 T (.agg #[.int .i64 a1, .int .i64 a2, .bool a3]) (.agg #[.int .i64 b1, .int .i64 b2, .bool b3])).run P w = .ok (decide ((⟨a1, a2, a3⟩ : Lit) = ⟨b1, b2, b3⟩)) w := by
  obtain ⟨a, b, c, hu, hf, ha, hb, hc, sa, sb, sc⟩ := h.f
  rw [run_equalIn_struct w 9999 T _ _ hu h.s]
  have hl3 : (P.fieldsOf T).toList.length = 3 := by have := congrArg List.length hf; simpa using this
  generalize (P.fieldsOf T).toList = fs at hf hl3 ⊢
  match fs, hl3 with
  | [f1, f2, f3], _ =>
    simp only [List.map_cons, List.map_nil, List.cons.injEq, Prod.mk.injEq, and_true, decide_eq_true_eq] at hf
    obtain ⟨⟨t1, o1, n1⟩, ⟨t2, o2, n2⟩, ⟨t3, o3, n3⟩⟩ := hf
    have e : decide ((⟨a1, a2, a3⟩ : Lit) = ⟨b1, b2, b3⟩) = ((a1 == b1) && ((a2 == b2) && (a3 == b3))) := by
      rw [Bool.eq_iff_iff]; simp
    rw [e]
    simp only [Op.eqFields, if_pos n1, if_pos n2, if_pos n3, Sem.run_bind, t1, t2, t3, o1, o2, o3,
      part_one sa (agg_int ha) (show (#[Value.int .i64 a1, Value.int .i64 a2, Value.bool a3])[0]? = some (Value.int .i64 a1) from rfl), part_one sa (agg_int ha) (show (#[Value.int .i64 b1, Value.int .i64 b2, Value.bool b3])[0]? = some (Value.int .i64 b1) from rfl), Result.andThen_ok, run_equalIn_int w 9998 a .i64 .i64 a1 b1 ha]
    cases (a1 == b1) with
    | false => rfl
    | true =>
      simp only [Bool.not_true, Bool.false_eq_true, if_false, Bool.true_and, Sem.run_bind, part_one sb (agg_int hb) (show (#[Value.int .i64 a1, Value.int .i64 a2, Value.bool a3])[1]? = some (Value.int .i64 a2) from rfl), part_one sb (agg_int hb) (show (#[Value.int .i64 b1, Value.int .i64 b2, Value.bool b3])[1]? = some (Value.int .i64 b2) from rfl), Result.andThen_ok, run_equalIn_int w 9998 b .i64 .i64 a2 b2 hb]
      cases (a2 == b2) with
      | false => rfl
      | true =>
        simp only [Bool.not_true, Bool.false_eq_true, if_false, Bool.true_and, Sem.run_bind, part_one sc (agg_bool hc) (show (#[Value.int .i64 a1, Value.int .i64 a2, Value.bool a3])[2]? = some (Value.bool a3) from rfl), part_one sc (agg_bool hc) (show (#[Value.int .i64 b1, Value.int .i64 b2, Value.bool b3])[2]? = some (Value.bool b3) from rfl), Result.andThen_ok, run_equalIn_bool' w 9998 c a3 b3 hc]
        cases (a3 == b3) <;> rfl
theorem kl_eqlQ {x y : Operand} {T T2 : Nat} {a1 a2 b1 b2 : Int} {a3 b3 : Bool} [hT : LitE C.P T] (hx : ev G x = some (.agg #[.int .i64 a1, .int .i64 a2, .bool a3])) (hy : ev G y = some (.agg #[.int .i64 b1, .int .i64 b2, .bool b3]))
    (h : KL C dr ops Q ims L fl.tail rest ((d, .bool (decide ((⟨a1, a2, a3⟩ : Lit) = ⟨b1, b2, b3⟩))) :: G)) (hlt : Nat.blt d C.n = true := by rfl) :
    KL C dr ops Q ims L fl (⟨some d, .binOp .eql T x y T2, ty, pos, af, none⟩ :: rest) G :=
  kl_y (fun r w hr _ => by
    simp only [execOp, Sem.run_bind, Sem.run_pure, Result.andThen_ok, hr _ _ hx, hr _ _ hy, run_eqGuard_agg w _ _ _ _ _ _ hT.g, run_eql_struct, eqLit_run]) h hlt
end subs
end Go.Proofs.YtojinjdobjodaaaGreat
