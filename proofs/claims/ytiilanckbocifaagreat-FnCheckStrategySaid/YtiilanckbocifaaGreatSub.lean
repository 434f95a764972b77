/- x[i:], x[i:j] of fixed lists; equal literals. Conditions: none. -/
import Derived.Test.YtiilanckbocifaaGreatLit
import Derived.Laws.StructEq
namespace Go.Proofs.YtiilanckbocifaaGreat
open Go
set_option linter.unusedSimpArgs false
set_option linter.unusedVariables false
theorem Sl.dropR {A : Type} {H : Hp} {k : Nat} {R : List Value → A → Prop} {v : Value} {xs : List A} (hv : Sl H k R v xs) {j : Nat} (hj : j ≤ xs.length) :
    ∃ u, Sl H k R u (xs.drop j) ∧ ∀ (P : Program) (T E by' : Nat) (z : Value), IsSlice P T E k by' z → ∀ w, (Instr.sliceAt T v (some (.int .i64 (j : Int))) none none).run P w = .ok u w := by
  obtain ⟨a, c, rfl, h1, h2, h3⟩ := hv
  have hl : (xs.drop j).length = xs.length - j := by simp
  have hjc : j ≤ c := by omega
  have hel : ∀ i (hi : i < (xs.drop j).length), ∃ b o, a = some ⟨b, o, none⟩ ∧ ∃ vs, vs.length = k ∧ R vs (xs.drop j)[i] ∧ At H (.pointer (some ⟨b, (o + j * k) + i * k, none⟩)) vs := fun i hi => by
    obtain ⟨b, o, e, vs, l, r, t⟩ := h3 (j + i) (by omega)
    refine ⟨b, o, e, vs, l, by simpa using r, ?_⟩
    rw [Nat.add_mul, ← Nat.add_assoc] at t; exact t
  cases a with
  | none =>
    refine ⟨.slice none (xs.length - j) (c - j), ⟨none, c - j, by rw [hl], by omega, by omega, fun i hi => ?_⟩, fun P T E by' z hT w => ?_⟩
    · obtain ⟨b, o, e, _⟩ := hel i hi; cases e
    · simp [Instr.sliceAt, run_underlying hT.u, Instr.slice, Instr.sliceBounds, Instr.sliceBound, asIntOf, go_sem, sizeOf_run hT.size, hjc, hj]
  | some a =>
    refine ⟨.slice (some (if c = j then a else a.add (j * k))) (xs.length - j) (c - j), ⟨_, c - j, by rw [hl], by omega, by omega, fun i hi => ?_⟩, fun P T E by' z hT w => ?_⟩
    · obtain ⟨b, o, e, vs, l, r, t⟩ := hel i hi
      simp only [Option.some.injEq] at e
      subst e
      have hcj : c ≠ j := by omega
      exact ⟨b, o + j * k, by rw [if_neg hcj, Addr.add_lit], vs, l, r, t⟩
    · by_cases e : c = j
      · simp [Instr.sliceAt, run_underlying hT.u, Instr.slice, Instr.sliceBounds, Instr.sliceBound, asIntOf, go_sem, sizeOf_run hT.size, hjc, hj, e]
        try exact fun h => absurd rfl h
      · simp [Instr.sliceAt, run_underlying hT.u, Instr.slice, Instr.sliceBounds, Instr.sliceBound, asIntOf, go_sem, sizeOf_run hT.size, hjc, hj, e]
        try exact fun h => absurd h.symm e
class LitE (P : Program) (T : Nat) : Prop where
  f : ∃ a b c, P.underlying T = some (.struct (P.fieldsOf T)) ∧ ((P.fieldsOf T).toList.map fun f => (f.type, f.offset, decide (f.name ≠ "_"))) = [(a, 0, true), (b, 1, true), (c, 2, true)] ∧ P.underlying a = some (.int .i64) ∧ P.underlying b = some (.int .i64) ∧ P.underlying c = some .bool ∧
    (P.info? a).map (·.size) = some 1 ∧ (P.info? b).map (·.size) = some 1 ∧ (P.info? c).map (·.size) = some 1
  s : P.stoodInHeld T = false
  g : P.eqGuardType P.depth T = false
section subs
variable {C : Cx} {dr : Bool} {ops : Array Oper} {Q : Post} {ims L : List Hp} {G : Env} {fl : List Bool} {rest : List Oper}
  {d ty : Nat} {pos : String} {af : Array Edge}
theorem kl_slDrop {A : Type} {H : Hp} {k : Nat} {R : List Value → A → Prop} {v : Value} {xs : List A} {x y : Operand} {j : Nat} {T E by' : Nat} {z : Value} [hT : IsSlice C.P T E k by' z]
    (hx : ev G x = some v) (hy : ev G y = some (.int .i64 (j : Int))) (hv : Sl H k R v xs) (h1 : j ≤ xs.length)
    (h : ∀ u, Sl H k R u (xs.drop j) → KL C dr ops Q ims L fl.tail rest ((d, u) :: G)) (hlt : Nat.blt d C.n = true := by rfl) :
    KL C dr ops Q ims L fl (⟨some d, .slice T x (some y) none none, ty, pos, af, none⟩ :: rest) G := by
  obtain ⟨u, hu, hrun⟩ := hv.dropR h1
  refine kl_y (fun r w hr _ => ?_) (h u hu) hlt
  simp only [execOp, Sem.run_bind, hr _ _ hx, hr _ _ hy, Option.map_some, Option.map_none, hrun C.P T E by' z hT, Result.andThen_ok, Sem.run_pure]
end subs
end Go.Proofs.YtiilanckbocifaaGreat
