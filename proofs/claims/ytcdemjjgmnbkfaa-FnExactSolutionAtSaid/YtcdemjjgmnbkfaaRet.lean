/- Returns of functions that hold a loop over a function. Conditions: none. -/
import Derived.Test.YtcdemjjgmnbkfaaRng
namespace Go.Proofs.Ytcdemjjgmnbkfaa
open Go
set_option linter.unusedSimpArgs false
set_option linter.unusedVariables false
def slotRun (tmps : Array Value) : ResultVar → Sem Value
  | .tmp t => pure (tmps.getD t undef)
  | .cell a t => do loadVar t (← asAddr (tmps.getD a undef))
/-- What a result's slot holds. -/
def RS (P : Program) (L : List Hp) (G : Env) (s : ResultVar) (v : Value) : Prop :=
  ∀ {n : Nat × List Deferred} {B : World} {X : Side} {ims : List Hp} (a : Act) (w : World), Fit n G a → St B X ims L w → (slotRun a.tmps s).run P w = .ok v w
theorem rs_tmp {P : Program} {L : List Hp} {G : Env} {t : Nat} {v : Value} (hv : look t G = some v) : RS P L G (.tmp t) v := fun a w hf _ => by
  simp only [slotRun, Sem.run_pure, (hf.get t v hv).2]
theorem rs_cell {P : Program} {L : List Hp} {G : Env} {c T b E : Nat} {v : Value} {F : List Value → List Hp} [hT : OneC P T] [hF : BoxF b [v] E L F] (hv : look c G = some (.pointer (some ⟨b, 0, none⟩))) : RS P L G (.cell c T) v := fun a w hf hs => by
  have hA := (hs.own _ (hF.u [v]).mem).1 b _ (sing_self _ _)
  have hcell : w.cell? ⟨b, 0, none⟩ = some v := by simp [World.cell?, hA]
  have h2 : a.tmps.getD c undef = .pointer (some ⟨b, 0, none⟩) := (hf.get c _ hv).2
  simp only [slotRun, h2, asAddr, Sem.run_bind, Sem.run_pure, Result.andThen_ok]
  simp [go_sem, loadVar, OneC.run, hcell]
theorem rs_agg {P : Program} {L : List Hp} {G : Env} {c T b E k : Nat} {cs : List Value} {F : List Value → List Hp} [hT : AggC P T k] [hF : BoxF b cs E L F] (hv : look c G = some (.pointer (some ⟨b, 0, none⟩))) (hk : Nat.beq cs.length k = true) :
    RS P L G (.cell c T) (.agg cs.toArray) := fun a w hf hs => by
  have hA := (hs.own _ (hF.u cs).mem).1
  have hat : At (sing b (.cells cs.toArray E (0, 0))) (.pointer (some ⟨b, 0, none⟩)) cs := At.sing (cs := cs.toArray)
  have hc := loadCells_at (P := P) hA hat
  rw [Nat.eq_of_beq_eq_true hk] at hc
  have h1 : (loadVar T ⟨b, 0, none⟩).run P w = .ok (.agg cs.toArray) w := by
    simp only [loadVar, Sem.run_bind, Sem.run_pure, Result.andThen_ok, AggC.run, sizeOf_run hT.i, hc, if_true]
  have h2 : a.tmps.getD c undef = .pointer (some ⟨b, 0, none⟩) := (hf.get c _ hv).2
  simp only [slotRun, h2, asAddr, Sem.run_bind, Sem.run_pure, Result.andThen_ok, h1]
def RSs (P : Program) (L : List Hp) (G : Env) (fn : Func) (v : Value) : Prop :=
  ∀ {n : Nat × List Deferred} {B : World} {X : Side} {ims : List Hp} (a : Act) (w : World), Fit n G a → St B X ims L w → (results fn a.tmps).run P w = .ok v w
theorem results_eq (fn : Func) (tmps : Array Value) : results fn tmps = (do
    let vs ← fn.results.mapM (slotRun tmps)
    pure (if h : vs.size = 1 then vs[0] else .tuple vs)) := by
  have e : (fun s : ResultVar => match s with
    | .tmp t => (pure (tmps.getD t undef) : Sem Value)
    | .cell a t => do loadVar t (← asAddr (tmps.getD a undef))) = slotRun tmps := by
    funext s; cases s <;> rfl
  rw [← e]; rfl
theorem rss1 {P : Program} {L : List Hp} {G : Env} {fn : Func} {s : ResultVar} {v : Value} (hr : fn.results = #[s]) (h : RS P L G s v) : RSs P L G fn v := fun a w hf hs => by
  have h1 := h a w hf hs
  rw [results_eq, hr]
  simp [h1]
theorem rss2 {P : Program} {L : List Hp} {G : Env} {fn : Func} {s t : ResultVar} {u v : Value} (hr : fn.results = #[s, t]) (h : RS P L G s u) (k : RS P L G t v) : RSs P L G fn (.tuple #[u, v]) := fun a w hf hs => by
  have h1 := h a w hf hs
  have h2 := k a w hf hs
  rw [results_eq, hr]
  simp [h1, h2]

/-- The mark of a loop over a function is shut. -/
theorem St.shut {B : World} {X : Side} {ims L : List Hp} {w : World} {D : Nat} (h : St B X ims L w) [i : In (dfb D) ims] (hB : B.heap.size ≤ D) : St B X [] L (w.putObj D (.deferred none)) := by
  have hA : w.heap[D]? = some (.deferred (some [])) := h.im _ i.mem D _ (sing_self _ _)
  have hD : dm B ims L D := .inr ⟨hB, dfb D, i.mem, by simp [dfb]⟩
  have hother : ∀ k, k ≠ D → (w.putObj D (.deferred none)).heap[k]? = w.heap[k]? := fun k hk => World.putObj_heap_other hk
  refine h.turn (by rw [World.putObj_size]; exact Nat.le_refl _) (fun b _ hn => hother b (fun e => hn (e ▸ hD))) ⟨rfl, rfl⟩ (fun b hb => .inl ?_) (fun b hb hx => ?_) (fun _ h => by cases h) (fun K hK => ⟨fun b o hb => ?_, (h.own K hK).2.1, fun _ h => by cases h⟩) h.nd
  · rcases hb with hb | ⟨_, _, hb, _⟩
    · exact .inl hb
    · cases hb
  · rw [hother b (by omega)]; exact h.ext b hb hx
  · have hne : b ≠ D := fun e => by
      subst e
      rcases (h.own K hK).2.2 _ i.mem b with h1 | h1
      · rw [h1] at hb; cases hb
      · simp [dfb] at h1
    rw [hother b hne]; exact (h.own K hK).1 b o hb
/-- The marks that are pushed: none, or one that is at hand. -/
inductive DfOk (B : World) (ims : List Hp) : List Deferred → Prop
  | none : DfOk B ims []
  | one {D : Nat} (hB : B.heap.size ≤ D) (hi : dfb D ∈ ims) : DfOk B ims [{ target := .collected D, args := #[] }]
theorem df1 {B : World} {ims : List Hp} {D : Nat} (hB : B.heap.size ≤ D) [i : In (dfb D) ims] : DfOk B ims [{ target := .collected D, args := #[] }] := .one hB i.mem
section rets
variable {P : Program} {n : Nat} {B : World} {ims L : List Hp} {G : Env} {fn : Func} {phi : Hp → Value → Prop} {df : List Deferred}
theorem kq_retR {v : Value} (hr : RSs P L G fn v) (H : Hp) [hg : Got H ims L] (hf : Fr B H) (hp : phi H v) (hd : DfOk B ims df) :
    KQ ⟨P, n, B, noS, false, df, none⟩ ims L G (bodyPostM (FW none) 0 P fn (Res B phi) .ret) := fun a w hF hS => by
  show LeavesInM (FW none) 0 P fn a.tmps (Res B phi) a.defers .returning w
  cases hd with
  | none =>
    rw [show a.defers = [] from hF.defers]
    exact ⟨v, hr a w hF hS, hS.toExt, H, hg.g hS, hf, hp⟩
  | one hB hi =>
    rename_i D
    rw [show a.defers = [{ target := .collected D, args := #[] }] from hF.defers]
    have i : In (dfb D) ims := ⟨hi⟩
    have hS2 := hS.shut hB
    have hA : w.heap[D]? = some (.deferred (some [])) := hS.im _ hi D _ (sing_self _ _)
    refine ⟨by simp, .inl ⟨D, _, rfl, run_takeDeferred hA, v, hr a _ hF hS2, hS2.toExt, H, fun b o hb => ?_, hf, hp⟩⟩
    have hAH := hg.g hS
    have hne : b ≠ D := fun e => by
      subst e
      obtain ⟨cs, T, e⟩ := hf.2 b o hb
      have := hAH b o hb
      rw [hA] at this; subst e; cases this
    rw [World.putObj_heap_other hne]; exact hAH b o hb
theorem spec_ofR {f : FuncId} {c : Code} {vs : List Value} (hf : P.funcs[f]? = some fn) (hb : fn.body = some c) (hn : fn.ntmps = n) (hle : Nat.ble vs.length n = true)
    (h : ∀ B, KC ⟨P, n, B, noS, false, [], none⟩ (bodyPostM (FW none) 0 P fn (Res B phi)) ims [] c (pars 0 vs)) : Spec P f vs ims phi := fun w hA => by
  refine calls_of_FW (R := none) (n := 0) (callsIn_of_wp_marks hf hb trivial ?_ rfl)
  rw [hn]
  exact h w _ w (fit_pars (Nat.le_of_ble_eq_true hle)) (St.init hA)
end rets
end Go.Proofs.Ytcdemjjgmnbkfaa
