/- Representations of Go data in heaplets, and the laws of the operations on memory. Conditions: none. -/
import Derived.Test.YtcdemjjgmnbkfaaOps
import Derived.Laws.AppendOwn
import Derived.Laws.MakeOwn
namespace Go.Proofs.Ytcdemjjgmnbkfaa
open Go
set_option linter.unusedSimpArgs false
set_option linter.unusedVariables false

/-! ### Types -/
class IsSlice (P : Program) (T : Nat) (E k bytes : outParam Nat) (z : outParam Value) : Prop where
  u : P.underlying T = some (.slice E)
  i : (P.info? E).map (fun i => (i.zero, i.size, i.bytes)) = some (some z, k, bytes)
  z : z.cells.size = k
  p : 0 < k
class OneC (P : Program) (T : Nat) : Prop where
  u : (P.underlying T).map (fun d => match d with | .struct _ => false | .array _ _ => false | _ => true) = some true
  i : (P.info? T).map (·.size) = some 1
class AggC (P : Program) (T : Nat) (k : outParam Nat) : Prop where
  u : (P.underlying T).map (fun d => match d with | .struct _ => true | _ => false) = some true
  i : (P.info? T).map (·.size) = some k
  pos : 0 < k
class ZeroC (P : Program) (T : Nat) (z : outParam Value) : Prop where
  i : (P.info? T).map (·.zero) = some (some z)
class FieldC (P : Program) (T f : Nat) (off : outParam Nat) : Prop where
  u : ∃ fs fd, P.underlying T = some (.struct fs) ∧ fs[f]? = some fd ∧ fd.offset = off ∧ ((P.info? fd.type).map (fun i => decide (i.size ≠ 0)) = some true)

theorem OneC.run {P : Program} {T : Nat} [h : OneC P T] (w : World) : (isAgg T).run P w = .ok false w := by
  have := h.u
  cases hu : P.underlying T with
  | none => rw [hu] at this; simp at this
  | some d =>
    rw [hu] at this
    simp only [isAgg, Sem.run_bind, run_underlying hu, Result.andThen]
    cases d <;> simp at this ⊢
theorem AggC.run {P : Program} {T k : Nat} [h : AggC P T k] (w : World) : (isAgg T).run P w = .ok true w := by
  have := h.u
  cases hu : P.underlying T with
  | none => rw [hu] at this; simp at this
  | some d =>
    rw [hu] at this
    simp only [isAgg, Sem.run_bind, run_underlying hu, Result.andThen]
    cases d <;> simp at this ⊢
theorem sizeOf_run {P : Program} {T k : Nat} (h : (P.info? T).map (·.size) = some k) (w : World) : (Go.sizeOf T).run P w = .ok k w := by
  cases hi : P.info? T with
  | none => rw [hi] at h; simp at h
  | some i => rw [hi] at h; simp at h; simp [Go.sizeOf, typeInfo, hi, h]
theorem zeroValue_run {P : Program} {T : Nat} {z : Value} (h : (P.info? T).map (·.zero) = some (some z)) (w : World) : (zeroValue T).run P w = .ok z w := by
  cases hi : P.info? T with
  | none => rw [hi] at h; simp at h
  | some i => rw [hi] at h; simp at h; simp [zeroValue, typeInfo, hi, h]
theorem IsSlice.size {P : Program} {T E k bytes : Nat} {z : Value} (h : IsSlice P T E k bytes z) : (P.info? E).map (·.size) = some k := by
  have := h.i
  cases hi : P.info? E with
  | none => rw [hi] at this; simp at this
  | some i => rw [hi] at this; simp at this; simp [this]
theorem IsSlice.info {P : Program} {T E k bytes : Nat} {z : Value} (h : IsSlice P T E k bytes z) : ∃ i, P.info? E = some i ∧ i.zero = some z ∧ i.size = k ∧ i.bytes = bytes := by
  have := h.i
  cases hi : P.info? E with
  | none => rw [hi] at this; simp at this
  | some i => rw [hi] at this; simp at this; exact ⟨i, rfl, this.1, this.2.1, this.2.2⟩

/-! ### Representations -/
/-- p points to cells that hold vs. -/
def At (H : Hp) (p : Value) (vs : List Value) : Prop :=
  ∃ b o cs T fz, p = .pointer (some ⟨b, o, none⟩) ∧ H b = some (.cells cs T fz) ∧ ∀ j u, vs[j]? = some u → cs[o + j]? = some u
theorem At.drop {H : Hp} {b o : Nat} {vs : List Value} (h : At H (.pointer (some ⟨b, o, none⟩)) vs) (n : Nat) : At H (.pointer (some ⟨b, o + n, none⟩)) (vs.drop n) := by
  obtain ⟨b', o', cs, T, fz, hp, hb, hc⟩ := h
  simp at hp
  obtain ⟨rfl, rfl⟩ := hp
  exact ⟨b, o + n, cs, T, fz, rfl, hb, fun j u hj => by rw [List.getElem?_drop] at hj; rw [Nat.add_assoc]; exact hc _ _ hj⟩
theorem At.sing {b T : Nat} {cs : Array Value} {fz : Nat × Nat} : At (sing b (.cells cs T fz)) (.pointer (some ⟨b, 0, none⟩)) cs.toList :=
  ⟨b, 0, cs, T, fz, rfl, by simp, fun j u hj => by simpa using hj⟩
theorem At.mono {H K : Hp} {p : Value} {vs : List Value} (h : At H p vs) (hk : ∀ b o, H b = some o → K b = some o) : At K p vs := by
  obtain ⟨b, o, cs, T, fz, hp, hb, hc⟩ := h
  exact ⟨b, o, cs, T, fz, hp, hk _ _ hb, hc⟩
theorem At.orL {H K : Hp} {p : Value} {vs : List Value} (h : At H p vs) : At (orHp H K) p vs := h.mono fun b o hb => by simp [orHp, hb]

/-- v is a slice whose elements, k cells each, are xs by R. -/
def Sl {A : Type} (H : Hp) (k : Nat) (R : List Value → A → Prop) (v : Value) (xs : List A) : Prop :=
  ∃ a c, v = .slice a xs.length c ∧ xs.length ≤ c ∧ xs.length ≤ 140737488355328 ∧
    ∀ i (h : i < xs.length), ∃ b o, a = some ⟨b, o, none⟩ ∧ ∃ vs, vs.length = k ∧ R vs xs[i] ∧ At H (.pointer (some ⟨b, o + i * k, none⟩)) vs
theorem Sl.len {A : Type} {H : Hp} {k : Nat} {R : List Value → A → Prop} {v : Value} {xs : List A} (h : Sl H k R v xs) : xs.length ≤ 140737488355328 := by
  obtain ⟨a, c, _, _, h, _⟩ := h; exact h
theorem Sl.mono {A : Type} {H K : Hp} {k : Nat} {R R' : List Value → A → Prop} {v : Value} {xs : List A} (h : Sl H k R v xs) (hk : ∀ b o, H b = some o → K b = some o) (hr : ∀ vs x, R vs x → R' vs x) : Sl K k R' v xs := by
  obtain ⟨a, c, h1, h2, h3, h4⟩ := h
  exact ⟨a, c, h1, h2, h3, fun i hi => let ⟨b, o, e, vs, l, r, t⟩ := h4 i hi; ⟨b, o, e, vs, l, hr _ _ r, t.mono hk⟩⟩

def IntC (vs : List Value) (n : Int) : Prop := vs = [.int .i64 n]
def BoolC (vs : List Value) (b : Bool) : Prop := vs = [.bool b]
def SlC {A : Type} (H : Hp) (k : Nat) (R : List Value → A → Prop) (vs : List Value) (xs : List A) : Prop := ∃ v, vs = [v] ∧ Sl H k R v xs
abbrev Ints (H : Hp) (v : Value) (xs : List Int) : Prop := Sl H 1 IntC v xs
abbrev Rows (H : Hp) (v : Value) (xs : List (List Int)) : Prop := Sl H 1 (SlC H 1 IntC) v xs
abbrev Bools (H : Hp) (v : Value) (xs : List Bool) : Prop := Sl H 1 BoolC v xs

structure Con where
  kind : Int
  vars : List Int
  args : List Int
  bound : Int
  rows : List (List Int)
structure Mod where
  doms : List Int
  cons : List Con
def ConV (H : Hp) (vs : List Value) (c : Con) : Prop :=
  ∃ a b r, vs = [.int .i64 c.kind, a, b, .int .i64 c.bound, r] ∧ Ints H a c.vars ∧ Ints H b c.args ∧ Rows H r c.rows
abbrev Cons (H : Hp) (v : Value) (cs : List Con) : Prop := Sl H 5 (ConV H) v cs
def ConR (H : Hp) (v : Value) (c : Con) : Prop := ∃ vs : List Value, v = .agg vs.toArray ∧ ConV H vs c
def ModR (H : Hp) (v : Value) (m : Mod) : Prop := ∃ a b, v = .agg #[a, b] ∧ Ints H a m.doms ∧ Cons H b m.cons

theorem cell_at {H : Hp} {w : World} (hA : Agree H w) {b o : Nat} {vs : List Value} (h : At H (.pointer (some ⟨b, o, none⟩)) vs) {j : Nat} {u : Value} (hj : vs[j]? = some u) :
    w.cell? ⟨b, o + j, none⟩ = some u := by
  obtain ⟨b', o', cs, T, fz, hp, hb, hc⟩ := h
  simp at hp
  obtain ⟨rfl, rfl⟩ := hp
  simp [World.cell?, hA _ _ hb, hc _ _ hj]

section ops
variable {C : Cx} {dr : Bool} {ops : Array Oper} {Q : Post} {ims L : List Hp} {G : Env} {fl : List Bool} {rest : List Oper}
  {d ty : Nat} {pos : String} {af : Array Edge}

/-! ### Reading -/
theorem kl_len {A : Type} {H : Hp} {k : Nat} {R : List Value → A → Prop} {v : Value} {xs : List A} {x : Operand} {T E k' by' : Nat} {z : Value} [hT : IsSlice C.P T E k' by' z]
    (hx : ev G x = some v) (hv : Sl H k R v xs) (h : xs.length ≤ 140737488355328 → KL C dr ops Q ims L fl.tail rest ((d, .int .i64 xs.length) :: G)) (hlt : Nat.blt d C.n = true := by rfl) :
    KL C dr ops Q ims L fl (⟨some d, .call ⟨.builtin .len, #[x], #[T]⟩, ty, pos, af, none⟩ :: rest) G :=
  kl_y (fun r w hr _ => by
    obtain ⟨a, c, rfl, _⟩ := hv
    simp [go_sem, hr _ _ hx, Builtin.len_, run_underlying hT.u, goInt]) (h hv.len) hlt
theorem kl_lenV {a : Option Addr} {n c : Nat} {x : Operand} {T E k' by' : Nat} {z : Value} [hT : IsSlice C.P T E k' by' z]
    (hx : ev G x = some (.slice a n c)) (h : KL C dr ops Q ims L fl.tail rest ((d, .int .i64 n) :: G)) (hlt : Nat.blt d C.n = true := by rfl) :
    KL C dr ops Q ims L fl (⟨some d, .call ⟨.builtin .len, #[x], #[T]⟩, ty, pos, af, none⟩ :: rest) G :=
  kl_y (fun r w hr _ => by simp [go_sem, hr _ _ hx, Builtin.len_, run_underlying hT.u, goInt]) h hlt

theorem Sl.index {A : Type} {H : Hp} {k : Nat} {R : List Value → A → Prop} {v : Value} {xs : List A} (hv : Sl H k R v xs) {i : Nat} (hi : i < xs.length) :
    ∃ p vs, vs.length = k ∧ R vs xs[i] ∧ At H p vs ∧ ∀ (P : Program) (T E by' : Nat) (z : Value), IsSlice P T E k by' z → ∀ w, (Instr.indexAt T v (.int .i64 (i : Int))).run P w = .ok p w := by
  obtain ⟨a, c, rfl, _, _, h4⟩ := hv
  obtain ⟨b, o, rfl, vs, hl, hr, hat⟩ := h4 i hi
  refine ⟨_, vs, hl, hr, hat, fun P T E by' z hT w => ?_⟩
  have hi' : ¬ xs.length ≤ i := by omega
  simp [go_sem, Instr.indexAt, run_underlying hT.u, sizeOf_run hT.size, Addr.add_lit, hi']

theorem kl_ix {A : Type} {H : Hp} {k : Nat} {R : List Value → A → Prop} {v : Value} {xs : List A} {x y : Operand} {i : Int} {T E by' : Nat} {z : Value} [hT : IsSlice C.P T E k by' z]
    (hx : ev G x = some v) (hy : ev G y = some (.int .i64 i)) (hv : Sl H k R v xs) (h0 : 0 ≤ i) (h1 : i < xs.length)
    (h : ∀ p vs, (∀ df, R vs (xs.getD i.toNat df)) → At H p vs → KL C dr ops Q ims L fl.tail rest ((d, p) :: G)) (hlt : Nat.blt d C.n = true := by rfl) :
    KL C dr ops Q ims L fl (⟨some d, .indexAddr T x y, ty, pos, af, none⟩ :: rest) G := by
  have hi : i.toNat < xs.length := by omega
  obtain ⟨p, vs, _, hR, hat, hrun⟩ := hv.index hi
  refine kl_y (v := p) (fun r w hr _ => ?_) (h p vs (fun df => by simpa [List.getD_eq_getElem?_getD, hi] using hR) hat) hlt
  have h2 := hrun C.P T E by' z hT w
  rw [Int.toNat_of_nonneg h0] at h2
  simp [go_sem, hr _ _ hx, hr _ _ hy, h2]
theorem kl_ixI {H : Hp} {v : Value} {xs : List Int} {x y : Operand} {i : Int} {T E by' : Nat} {z : Value} [hT : IsSlice C.P T E 1 by' z]
    (hx : ev G x = some v) (hy : ev G y = some (.int .i64 i)) (hv : Ints H v xs) (h0 : 0 ≤ i) (h1 : i < xs.length)
    (h : ∀ p, At H p [.int .i64 (xs.getD i.toNat 0)] → KL C dr ops Q ims L fl.tail rest ((d, p) :: G)) (hlt : Nat.blt d C.n = true := by rfl) :
    KL C dr ops Q ims L fl (⟨some d, .indexAddr T x y, ty, pos, af, none⟩ :: rest) G :=
  kl_ix hx hy hv h0 h1 (fun p vs hR hat => h p (by have := hR 0; unfold IntC at this; subst this; exact hat)) hlt
theorem kl_ixB {H : Hp} {v : Value} {xs : List Bool} {x y : Operand} {i : Int} {T E by' : Nat} {z : Value} [hT : IsSlice C.P T E 1 by' z]
    (hx : ev G x = some v) (hy : ev G y = some (.int .i64 i)) (hv : Bools H v xs) (h0 : 0 ≤ i) (h1 : i < xs.length)
    (h : ∀ p, At H p [.bool (xs.getD i.toNat false)] → KL C dr ops Q ims L fl.tail rest ((d, p) :: G)) (hlt : Nat.blt d C.n = true := by rfl) :
    KL C dr ops Q ims L fl (⟨some d, .indexAddr T x y, ty, pos, af, none⟩ :: rest) G :=
  kl_ix hx hy hv h0 h1 (fun p vs hR hat => h p (by have := hR false; unfold BoolC at this; subst this; exact hat)) hlt
theorem kl_ixS {A : Type} {H K : Hp} {k : Nat} {R : List Value → A → Prop} {v : Value} {xs : List (List A)} {x y : Operand} {i : Int} {T E by' : Nat} {z : Value} [hT : IsSlice C.P T E 1 by' z]
    (hx : ev G x = some v) (hy : ev G y = some (.int .i64 i)) (hv : Sl H 1 (SlC K k R) v xs) (h0 : 0 ≤ i) (h1 : i < xs.length)
    (h : ∀ p u, Sl K k R u (xs.getD i.toNat []) → At H p [u] → KL C dr ops Q ims L fl.tail rest ((d, p) :: G)) (hlt : Nat.blt d C.n = true := by rfl) :
    KL C dr ops Q ims L fl (⟨some d, .indexAddr T x y, ty, pos, af, none⟩ :: rest) G :=
  kl_ix hx hy hv h0 h1 (fun p vs hR hat => by
    obtain ⟨u, hu, hs⟩ := hR []
    subst hu
    exact h p u hs hat) hlt
theorem kl_ixC {H K : Hp} {v : Value} {xs : List Con} {x y : Operand} {i : Int} {T E by' : Nat} {z : Value} [hT : IsSlice C.P T E 5 by' z]
    (hx : ev G x = some v) (hy : ev G y = some (.int .i64 i)) (hv : Sl H 5 (ConV K) v xs) (h0 : 0 ≤ i) (h1 : i < xs.length) (c : Con) (hc : xs.getD i.toNat c = c)
    (h : ∀ p a b r, Ints K a c.vars → Ints K b c.args → Rows K r c.rows → At H p [.int .i64 c.kind, a, b, .int .i64 c.bound, r] → KL C dr ops Q ims L fl.tail rest ((d, p) :: G)) (hlt : Nat.blt d C.n = true := by rfl) :
    KL C dr ops Q ims L fl (⟨some d, .indexAddr T x y, ty, pos, af, none⟩ :: rest) G :=
  kl_ix hx hy hv h0 h1 (fun p vs hR hat => by
    have := hR c
    rw [hc] at this
    obtain ⟨a, b, r, rfl, ha, hb, hr⟩ := this
    exact h p a b r ha hb hr hat) hlt

theorem kl_ld {H : Hp} {p v : Value} {vs : List Value} {x : Operand} {T : Nat} [hT : OneC C.P T] [hi : In H ims] (hx : ev G x = some p) (hp : At H p (v :: vs))
    (h : KL C dr ops Q ims L fl.tail rest ((d, v) :: G)) (hlt : Nat.blt d C.n = true := by rfl) : KL C dr ops Q ims L fl (⟨some d, .load T x, ty, pos, af, none⟩ :: rest) G :=
  kl_y (fun r w hr hs => by
    have hat := hp
    obtain ⟨b, o, cs, T', fz, rfl, _⟩ := hp
    have hc : w.cell? ⟨b, o, none⟩ = some v := cell_at (hs.im H hi.mem) hat (j := 0) (u := v) rfl
    simp [go_sem, hr _ _ hx, Instr.loadAt, loadVar, OneC.run, hc]) h hlt
theorem loadCells_at {P : Program} {H : Hp} {w : World} (hA : Agree H w) {b o : Nat} {vs : List Value} (h : At H (.pointer (some ⟨b, o, none⟩)) vs) :
    (loadCells ⟨b, o, none⟩ vs.length).run P w = .ok vs.toArray w :=
  run_loadCells_list w ⟨b, o, none⟩ vs fun j u hj => by rw [Addr.add_lit]; exact cell_at hA h hj
theorem kl_ldS {H : Hp} {p : Value} {vs : List Value} {x : Operand} {T k : Nat} [hT : AggC C.P T k] [hi : In H ims] (hx : ev G x = some p) (hp : At H p vs) (hk : Nat.beq vs.length k = true)
    (h : KL C dr ops Q ims L fl.tail rest ((d, .agg vs.toArray) :: G)) (hlt : Nat.blt d C.n = true := by rfl) : KL C dr ops Q ims L fl (⟨some d, .load T x, ty, pos, af, none⟩ :: rest) G :=
  kl_y (fun r w hr hs => by
    have hat := hp
    obtain ⟨b, o, cs, T', fz, rfl, _⟩ := hp
    have hc := loadCells_at (P := C.P) (hs.im H hi.mem) hat
    rw [Nat.eq_of_beq_eq_true hk] at hc
    have h1 : (Instr.loadAt T (.pointer (some ⟨b, o, none⟩))).run C.P w = .ok (.agg vs.toArray) w := by
      simp only [Instr.loadAt, Instr.sureAddr, loadVar, Sem.run_bind, Sem.run_pure, Result.andThen_ok, AggC.run, sizeOf_run hT.i, hc, if_true]
    simp only [execOp, Sem.run_bind, hr _ _ hx, h1, Result.andThen_ok, Sem.run_pure]) h hlt
theorem fieldAt_run {P : Program} {T f off : Nat} [hF : FieldC P T f off] (b o : Nat) (w : World) :
    (Instr.fieldAt T (.pointer (some ⟨b, o, none⟩)) f).run P w = .ok (.pointer (some ⟨b, o + off, none⟩)) w := by
  obtain ⟨fs, fd, hu, hf, ho, hz⟩ := hF.u
  cases hi : P.info? fd.type with
  | none => rw [hi] at hz; simp at hz
  | some i =>
    rw [hi] at hz
    simp at hz
    simp [Instr.fieldAt, run_underlying hu, hf, go_sem, fieldPlace, sizeOf_run (P := P) (T := fd.type) (k := i.size) (by simp [hi]), hz, Addr.add_lit, ho]
theorem kl_fd {H : Hp} {p : Value} {vs : List Value} {x : Operand} {T f off : Nat} [hF : FieldC C.P T f off] (hx : ev G x = some p) (hp : At H p vs)
    (h : ∀ p', At H p' (vs.drop off) → KL C dr ops Q ims L fl.tail rest ((d, p') :: G)) (hlt : Nat.blt d C.n = true := by rfl) :
    KL C dr ops Q ims L fl (⟨some d, .fieldAddr T x f, ty, pos, af, none⟩ :: rest) G := by
  have hat := hp
  obtain ⟨b, o, cs, T', fz, rfl, _⟩ := hp
  refine kl_y (fun r w hr hs => ?_) (h _ (hat.drop off)) hlt
  simp only [execOp, Sem.run_bind, hr _ _ hx, fieldAt_run, Result.andThen_ok, Sem.run_pure]
theorem kl_fdV {b o : Nat} {x : Operand} {T f off : Nat} [hF : FieldC C.P T f off] (hx : ev G x = some (.pointer (some ⟨b, o, none⟩)))
    (h : KL C dr ops Q ims L fl.tail rest ((d, .pointer (some ⟨b, o + off, none⟩)) :: G)) (hlt : Nat.blt d C.n = true := by rfl) :
    KL C dr ops Q ims L fl (⟨some d, .fieldAddr T x f, ty, pos, af, none⟩ :: rest) G :=
  kl_y (fun r w hr hs => by simp only [execOp, Sem.run_bind, hr _ _ hx, fieldAt_run, Result.andThen_ok, Sem.run_pure]) h hlt
theorem kl_nilchk {x : Operand} {a : Addr} (hx : ev G x = some (.pointer (some a)))
    (h : KL C dr ops Q ims L fl.tail rest ((d, .pointer (some a)) :: G)) (hlt : Nat.blt d C.n = true := by rfl) :
    KL C dr ops Q ims L fl (⟨some d, .nilCheck x, ty, pos, af, none⟩ :: rest) G :=
  kl_y (fun r w hr hs => by simp [go_sem, hr _ _ hx]) h hlt
theorem kl_nilchkA {H : Hp} {p : Value} {vs : List Value} {x : Operand} (hx : ev G x = some p) (hp : At H p vs)
    (h : KL C dr ops Q ims L fl.tail rest ((d, p) :: G)) (hlt : Nat.blt d C.n = true := by rfl) :
    KL C dr ops Q ims L fl (⟨some d, .nilCheck x, ty, pos, af, none⟩ :: rest) G := by
  obtain ⟨b, o, cs, T', fz, rfl, _⟩ := hp
  exact kl_nilchk hx h hlt
theorem kl_not {x : Operand} {T : Nat} {b : Bool} (hx : ev G x = some (.bool b)) (h : KL C dr ops Q ims L fl.tail rest ((d, .bool (!b)) :: G)) (hlt : Nat.blt d C.n = true := by rfl) :
    KL C dr ops Q ims L fl (⟨some d, .unOp .not T x, ty, pos, af, none⟩ :: rest) G :=
  kl_y (fun r w hr hs => by simp [go_sem, hr _ _ hx, Op.unary]) h hlt
theorem kl_mkf {f : Fn} {xs : List Operand} {vs : List Value} (hx : evs G xs = some vs) (h : KL C dr ops Q ims L fl.tail rest ((d, .func f #[] vs.toArray) :: G)) (hlt : Nat.blt d C.n = true := by rfl) :
    KL C dr ops Q ims L fl (⟨some d, .makeFunc f #[] xs.toArray, ty, pos, af, none⟩ :: rest) G :=
  kl_y (fun r w hr hs => by
    have : ∀ {xs : List Operand} {vs : List Value}, evs G xs = some vs → xs.map r = vs := by
      intro xs
      induction xs with
      | nil => intro vs h; simp [evs] at h; simp [h]
      | cons x t ih =>
        intro vs h
        simp only [evs] at h
        split at h
        · rename_i v ws h1 h2
          simp at h; subst h
          simp [hr _ _ h1, ih h2]
        · cases h
    simp [execOp, Instr.makeFunc, this hx]) h hlt
theorem kl_xt {x : Operand} {vs : List Value} {i : Nat} {v : Value} (hx : ev G x = some (.tuple vs.toArray)) (hv : vs[i]? = some v) (h : KL C dr ops Q ims L fl.tail rest ((d, v) :: G)) (hlt : Nat.blt d C.n = true := by rfl) :
    KL C dr ops Q ims L fl (⟨some d, .extract x i, ty, pos, af, none⟩ :: rest) G :=
  kl_y (fun r w hr hs => by simp [go_sem, hr _ _ hx, Instr.extract, hv]) h hlt
end ops
end Go.Proofs.Ytcdemjjgmnbkfaa
