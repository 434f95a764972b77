/- More laws for the walks: natural indexes, joins, loops, guarded operators. Conditions: none. -/
import Derived.Test.YtcdemjjgmnbkfaaAct
import Derived.Laws.Small
namespace Go.Proofs.Ytcdemjjgmnbkfaa
open Go
set_option linter.unusedSimpArgs false
set_option linter.unusedVariables false

theorem pn {G : Env} : Pick G [] := .nil
theorem pc {G G' : Env} (k : Nat) {v : Value} (h : look k G = some v) (t : Pick G G') : Pick G ((k, v) :: G') := .cons h t
def nilCon : Con := ⟨0, [], [], 0, []⟩
theorem Sl.cells {A : Type} {H : Hp} {k : Nat} {R : List Value → A → Prop} {v : Value} {xs : List A} (h : Sl H k R v xs) : v.cells = [v].toArray := by
  obtain ⟨a, c, rfl, _⟩ := h; rfl
theorem Sl.oneCell {A : Type} {H : Hp} {k : Nat} {R : List Value → A → Prop} {v : Value} {xs : List A} (h : Sl H k R v xs) : v.oneCell' = true := by
  obtain ⟨a, c, rfl, _⟩ := h; rfl
theorem Sl.nil {A : Type} {H : Hp} {k : Nat} {R : List Value → A → Prop} : Sl H k R (.slice none 0 0) [] := ⟨none, 0, rfl, Nat.le_refl _, by simp, fun i h => absurd h (Nat.not_lt_zero i)⟩
theorem intsNo (H : Hp) : Ints H (.slice none 0 0) [] := Sl.nil

class IsBool (P : Program) (T : Nat) : Prop where u : P.underlying T = some .bool

section codes
variable {C : Cx} {Q : Post} {ims L : List Hp} {G : Env}
/-- A loop that leaves the heaplets as they are. -/
theorem kc_loop0 {A : Type} {body : Code} (J : A → Prop) (mu : A → Nat) (Gf : A → Env) (x0 : A) {Gx : Env} (hx : Pick G Gx) (hg : Pick G (Gf x0)) (h0 : J x0)
    (round : ∀ x, J x → KC C (Exit.then (fun a w => ∃ x', mu x' < mu x ∧ J x' ∧ Fit C.m (Gf x' ++ Gx) a ∧ St C.B C.X ims L w) Q) ims L body (Gf x ++ Gx)) :
    KC C Q ims L (.loop body) G :=
  kc_loop J mu (fun _ => []) (fun _ => L) Gf x0 (ims0 := ims) hx hg rfl rfl h0 round
theorem kq_round0 {A : Type} {J : A → Prop} {mu : A → Nat} {Gf : A → Env} {x : A} {Gx : Env} {ims0 L0 : List Hp} (x' : A)
    (hlt : mu x' < mu x) (hJ : J x') (hg : Pick G (Gf x')) (hx : Pick G Gx) [hi : AllIn ims0 ims] (hs : List.Sublist L0 L) :
    KQ C ims L G (fun a w => ∃ x', mu x' < mu x ∧ J x' ∧ Fit C.m (Gf x' ++ Gx) a ∧ St C.B C.X ims0 L0 w) :=
  fun _ _ hf hs' => ⟨x', hlt, hJ, (hg.app hx).fit hf, hs'.weak hs⟩
/-- A loop whose owned heaplets are a function of its state. -/
theorem kc_loopL {A : Type} {body : Code} (J : A → Prop) (mu : A → Nat) (Lf : A → List Hp) (Gf : A → Env) (x0 : A) {Gx : Env} (hx : Pick G Gx) (hg : Pick G (Gf x0)) (hl : L = Lf x0) (h0 : J x0)
    (round : ∀ x, J x → KC C (Exit.then (fun a w => ∃ x', mu x' < mu x ∧ J x' ∧ Fit C.m (Gf x' ++ Gx) a ∧ St C.B C.X ims (Lf x') w) Q) ims (Lf x) body (Gf x ++ Gx)) :
    KC C Q ims L (.loop body) G :=
  kc_loop J mu (fun _ => []) Lf Gf x0 (ims0 := ims) hx hg rfl hl h0 round
theorem kq_roundL {A : Type} {J : A → Prop} {mu : A → Nat} {Lf : A → List Hp} {Gf : A → Env} {x : A} {Gx : Env} {ims0 L0 : List Hp} (x' : A)
    (hlt : mu x' < mu x) (hJ : J x') (hg : Pick G (Gf x')) (hx : Pick G Gx) (hl : L0 = Lf x') [hi : AllIn ims0 ims] (hs : List.Sublist L0 L) :
    KQ C ims L G (fun a w => ∃ x', mu x' < mu x ∧ J x' ∧ Fit C.m (Gf x' ++ Gx) a ∧ St C.B C.X ims0 (Lf x') w) :=
  fun _ _ hf hs' => ⟨x', hlt, hJ, (hg.app hx).fit hf, by subst hl; exact hs'.weak hs⟩
end codes

section ops
variable {C : Cx} {dr : Bool} {ops : Array Oper} {Q : Post} {ims L : List Hp} {G : Env} {fl : List Bool} {rest : List Oper}
  {d ty : Nat} {pos : String} {af : Array Edge}

theorem kl_join {l : List Oper} {G' : Env} (m d : Nat) (v : Value) (_hp : Pick G G')
    (h : (∀ G2, Pick G2 ((d, v) :: G') → KL C dr ops Q ims L (fl.drop m) (l.drop m) G2) → KL C dr ops Q ims L fl l G)
    (hJ : KL C dr ops Q ims L (fl.drop m) (l.drop m) ((d, v) :: G')) : KL C dr ops Q ims L fl l G :=
  h (fun _ hp2 => kl_pick hp2 hJ)
section bools
variable {c x y : Operand} {b q : Bool}
theorem kl_andT (hc : ev G c = some (.bool b)) (hx : ev G x = some (.bool q)) (hb : b = true) (h : KL C dr ops Q ims L fl.tail rest ((d, .bool (b && q)) :: G)) (hlt : Nat.blt d C.n = true := by rfl) :
    KL C dr ops Q ims L fl (⟨some d, .pick c x y, ty, pos, af, none⟩ :: rest) G := by
  subst hb; exact kl_pickT hc rfl hx h hlt
theorem kl_andF (q : Bool) (hc : ev G c = some (.bool b)) (hy : ev G y = some (.bool false)) (hb : b = false) (h : KL C dr ops Q ims L fl.tail rest ((d, .bool (b && q)) :: G)) (hlt : Nat.blt d C.n = true := by rfl) :
    KL C dr ops Q ims L fl (⟨some d, .pick c x y, ty, pos, af, none⟩ :: rest) G := by
  subst hb; exact kl_pickF hc rfl hy h hlt
theorem kl_orF (hc : ev G c = some (.bool b)) (hy : ev G y = some (.bool q)) (hb : b = false) (h : KL C dr ops Q ims L fl.tail rest ((d, .bool (b || q)) :: G)) (hlt : Nat.blt d C.n = true := by rfl) :
    KL C dr ops Q ims L fl (⟨some d, .pick c x y, ty, pos, af, none⟩ :: rest) G := by
  subst hb; exact kl_pickF hc rfl hy h hlt
theorem kl_orT (q : Bool) (hc : ev G c = some (.bool b)) (hx : ev G x = some (.bool true)) (hb : b = true) (h : KL C dr ops Q ims L fl.tail rest ((d, .bool (b || q)) :: G)) (hlt : Nat.blt d C.n = true := by rfl) :
    KL C dr ops Q ims L fl (⟨some d, .pick c x y, ty, pos, af, none⟩ :: rest) G := by
  subst hb; exact kl_pickT hc rfl hx h hlt
end bools
theorem kl_inc {x y : Operand} {T T2 : Nat} {k : Nat} (hx : ev G x = some (.int .i64 (k : Int))) (hy : ev G y = some (.int .i64 1)) (hb : k < 9223372036854775807)
    (h : KL C dr ops Q ims L fl.tail rest ((d, .int .i64 ((k + 1 : Nat) : Int)) :: G)) (hlt : Nat.blt d C.n = true := by rfl) :
    KL C dr ops Q ims L fl (⟨some d, .binOp .add T x y T2, ty, pos, af, none⟩ :: rest) G := kl_add hx hy (by omega) h hlt
theorem kl_beq {x y : Operand} {T T2 : Nat} {p q : Bool} [hT : IsBool C.P T] (hx : ev G x = some (.bool p)) (hy : ev G y = some (.bool q))
    (h : KL C dr ops Q ims L fl.tail rest ((d, .bool (p == q)) :: G)) (hlt : Nat.blt d C.n = true := by rfl) :
    KL C dr ops Q ims L fl (⟨some d, .binOp .eql T x y T2, ty, pos, af, none⟩ :: rest) G :=
  kl_y (fun r w hr _ => by simp [go_sem, hr _ _ hx, hr _ _ hy, run_eql_bool w T p q hT.u]) h hlt
theorem kl_bne {x y : Operand} {T T2 : Nat} {p q : Bool} [hT : IsBool C.P T] (hx : ev G x = some (.bool p)) (hy : ev G y = some (.bool q))
    (h : KL C dr ops Q ims L fl.tail rest ((d, .bool (p != q)) :: G)) (hlt : Nat.blt d C.n = true := by rfl) :
    KL C dr ops Q ims L fl (⟨some d, .binOp .neq T x y T2, ty, pos, af, none⟩ :: rest) G :=
  kl_y (fun r w hr _ => by simp [go_sem, hr _ _ hx, hr _ _ hy, run_neq_bool w T p q hT.u]; cases p <;> cases q <;> rfl) h hlt

section index
variable {x y : Operand} {i : Nat} {T E by' : Nat} {z : Value}
theorem kl_inI {H : Hp} {v : Value} {xs : List Int} [hT : IsSlice C.P T E 1 by' z] (hx : ev G x = some v) (hy : ev G y = some (.int .i64 (i : Int))) (hv : Ints H v xs) (h1 : i < xs.length)
    (h : ∀ p, At H p [.int .i64 (xs.getD i 0)] → KL C dr ops Q ims L fl.tail rest ((d, p) :: G)) (hlt : Nat.blt d C.n = true := by rfl) :
    KL C dr ops Q ims L fl (⟨some d, .indexAddr T x y, ty, pos, af, none⟩ :: rest) G := kl_ixI hx hy hv (by omega) (by omega) h hlt
theorem kl_inB {H : Hp} {v : Value} {xs : List Bool} [hT : IsSlice C.P T E 1 by' z] (hx : ev G x = some v) (hy : ev G y = some (.int .i64 (i : Int))) (hv : Bools H v xs) (h1 : i < xs.length)
    (h : ∀ p, At H p [.bool (xs.getD i false)] → KL C dr ops Q ims L fl.tail rest ((d, p) :: G)) (hlt : Nat.blt d C.n = true := by rfl) :
    KL C dr ops Q ims L fl (⟨some d, .indexAddr T x y, ty, pos, af, none⟩ :: rest) G := kl_ixB hx hy hv (by omega) (by omega) h hlt
theorem kl_inS {A : Type} {H K : Hp} {k : Nat} {R : List Value → A → Prop} {v : Value} {xs : List (List A)} [hT : IsSlice C.P T E 1 by' z] (hx : ev G x = some v) (hy : ev G y = some (.int .i64 (i : Int)))
    (hv : Sl H 1 (SlC K k R) v xs) (h1 : i < xs.length)
    (h : ∀ p u, Sl K k R u (xs.getD i []) → At H p [u] → KL C dr ops Q ims L fl.tail rest ((d, p) :: G)) (hlt : Nat.blt d C.n = true := by rfl) :
    KL C dr ops Q ims L fl (⟨some d, .indexAddr T x y, ty, pos, af, none⟩ :: rest) G := kl_ixS hx hy hv (by omega) (by omega) h hlt
theorem kl_inC {H K : Hp} {v : Value} {xs : List Con} [hT : IsSlice C.P T E 5 by' z] (hx : ev G x = some v) (hy : ev G y = some (.int .i64 (i : Int))) (hv : Sl H 5 (ConV K) v xs) (h1 : i < xs.length)
    (h : ∀ p a b r, Ints K a (xs.getD i nilCon).vars → Ints K b (xs.getD i nilCon).args → Rows K r (xs.getD i nilCon).rows →
      At H p [.int .i64 (xs.getD i nilCon).kind, a, b, .int .i64 (xs.getD i nilCon).bound, r] → KL C dr ops Q ims L fl.tail rest ((d, p) :: G)) (hlt : Nat.blt d C.n = true := by rfl) :
    KL C dr ops Q ims L fl (⟨some d, .indexAddr T x y, ty, pos, af, none⟩ :: rest) G :=
  kl_ix hx hy hv (by omega) (by omega) (fun p vs hR hat => by
    obtain ⟨a, b, r, rfl, ha, hb, hr⟩ := hR nilCon
    exact h p a b r ha hb hr hat) hlt
end index

/-! Slices of slices. -/
theorem Sl.takeR {A : Type} {H : Hp} {k : Nat} {R : List Value → A → Prop} {v : Value} {xs : List A} (hv : Sl H k R v xs) {i : Nat} (hi : i ≤ xs.length) :
    ∃ u, Sl H k R u (xs.take i) ∧ ∀ (P : Program) (T E k' by' : Nat) (z : Value), IsSlice P T E k' by' z → ∀ w, (Instr.sliceAt T v none (some (.int .i64 (i : Int))) none).run P w = .ok u w := by
  obtain ⟨a, c, rfl, h1, h2, h3⟩ := hv
  have hl : (xs.take i).length = i := by simp; omega
  refine ⟨.slice a i c, ⟨a, c, by rw [hl], by omega, by omega, fun j hj => ?_⟩, fun P T E k' by' z hT w => ?_⟩
  · obtain ⟨b, o, e, vs, l, r, t⟩ := h3 j (by omega)
    exact ⟨b, o, e, vs, l, by simpa using r, t⟩
  · have hi' : i ≤ c := by omega
    by_cases hc : c = 0
    · have hi0 : i = 0 := by omega
      subst hi0 hc
      simp [Instr.sliceAt, run_underlying hT.u, Instr.slice, Instr.sliceBounds, Instr.sliceBound, asIntOf, go_sem, sizeOf_run hT.size]
    · cases a with
      | none => simp [Instr.sliceAt, run_underlying hT.u, Instr.slice, Instr.sliceBounds, Instr.sliceBound, asIntOf, go_sem, sizeOf_run hT.size, hi']
      | some a => simp [Instr.sliceAt, run_underlying hT.u, Instr.slice, Instr.sliceBounds, Instr.sliceBound, asIntOf, go_sem, sizeOf_run hT.size, hi', Addr.add]
theorem kl_slTake {A : Type} {H : Hp} {k : Nat} {R : List Value → A → Prop} {v : Value} {xs : List A} {x y : Operand} {i : Nat} {T E k' by' : Nat} {z : Value} [hT : IsSlice C.P T E k' by' z]
    (hx : ev G x = some v) (hy : ev G y = some (.int .i64 (i : Int))) (hv : Sl H k R v xs) (h1 : i ≤ xs.length)
    (h : ∀ u, Sl H k R u (xs.take i) → KL C dr ops Q ims L fl.tail rest ((d, u) :: G)) (hlt : Nat.blt d C.n = true := by rfl) :
    KL C dr ops Q ims L fl (⟨some d, .slice T x none (some y) none, ty, pos, af, none⟩ :: rest) G := by
  obtain ⟨u, hu, hrun⟩ := hv.takeR h1
  refine kl_y (fun r w hr _ => ?_) (h u hu) hlt
  simp only [execOp, Sem.run_bind, hr _ _ hx, hr _ _ hy, Option.map_some, Option.map_none, hrun C.P T E k' by' z hT, Result.andThen_ok, Sem.run_pure]
end ops
end Go.Proofs.Ytcdemjjgmnbkfaa
