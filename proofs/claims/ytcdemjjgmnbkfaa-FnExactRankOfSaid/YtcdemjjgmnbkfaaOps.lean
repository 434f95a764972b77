/- The judgements of the walks and the laws of the operations that leave the world alone. Conditions: none. -/
import Derived.Test.YtcdemjjgmnbkfaaVc
import Derived.IntWalk
namespace Go.Proofs.Ytcdemjjgmnbkfaa
open Go
set_option linter.unusedSimpArgs false
set_option linter.unusedVariables false

structure Cx where
  P : Program
  n : Nat
  B : World
  X : Side
  lo : Bool
  df : List Deferred
  R : Option Nat
def Cx.m (C : Cx) : Nat × List Deferred := (C.n, C.df)
/-- Which heaplets of the call's own a drawn region keeps from operation to operation: in the low form none. -/
def Cx.W (C : Cx) (L : List Hp) : List Hp := bif C.lo then [] else L
theorem St.w {C : Cx} {B : World} {X : Side} {ims L : List Hp} {w : World} (h : St B X ims L w) : St B X ims (C.W L) w := by
  unfold Cx.W; cases C.lo with
  | true => show St B X ims [] w; exact h.weak (i := allIn_refl _) (List.nil_sublist _)
  | false => exact h
theorem St.wl {C : Cx} {B : World} {X : Side} {ims L L' : List Hp} {w : World} (s : L'.Sublist L) (h : St B X ims (C.W L) w) : St B X ims (C.W L') w := by
  unfold Cx.W at *
  cases e : C.lo <;> rw [e] at h
  · show St B X ims L' w; exact St.weak (L := L) (i := allIn_refl _) h s
  · exact h
theorem St.wlo {C : Cx} (hl : C.lo = true) {B : World} {X : Side} {ims L L' : List Hp} {w : World} (h : St B X ims (C.W L) w) : St B X ims (C.W L') w := by
  unfold Cx.W at *; rw [hl] at *; exact h
theorem Cx.whi {C : Cx} (hl : C.lo = false) (L : List Hp) : C.W L = L := by unfold Cx.W; rw [hl]; rfl

abbrev Post := Exit → Act → World → Prop

/-- What is left of a region. -/
def KL (C : Cx) (dr : Bool) (ops : Array Oper) (Q : Post) (ims L : List Hp) (fl : List Bool) (l : List Oper) (G : Env) : Prop :=
  ∀ a w, Fit C.m G a → St C.B C.X ims L w → wpSeq dr C.P ops Q (St C.B C.X ims (C.W L)) fl l a w
/-- A code. -/
def KC (C : Cx) (Q : Post) (ims L : List Hp) (c : Code) (G : Env) : Prop :=
  ∀ a w, Fit C.m G a → St C.B C.X ims L w → c.wpIn (FW C.R) 0 C.P Q a w

/-! ### Codes -/
section codes
variable {C : Cx} {Q : Post} {ims L : List Hp} {G : Env}

theorem kc_seq {x y : Code} (h : KC C (Exit.then (y.wpIn (FW C.R) 0 C.P Q) Q) ims L x G) : KC C Q ims L (.seq x y) G := fun a w hf hs => wpIn_seq (h a w hf hs)
theorem kc_block {id : Nat} {c : Code} (h : KC C (Exit.inBlock id Q) ims L c G) : KC C Q ims L (.block id c) G := fun a w hf hs => wpIn_block (h a w hf hs)
theorem kc_pick {G' : Env} {c : Code} (hp : Pick G G') (h : KC C Q ims L c G') : KC C Q ims L c G := fun a w hf hs => h a w (hp.fit hf) hs
theorem kl_pick {dr : Bool} {ops : Array Oper} {fl : List Bool} {l : List Oper} {G' : Env} (hp : Pick G G') (h : KL C dr ops Q ims L fl l G') : KL C dr ops Q ims L fl l G := fun a w hf hs => h a w (hp.fit hf) hs
theorem kc_ims {ims' : List Hp} {c : Code} [i : AllIn ims' ims] (h : KC C Q ims' L c G) : KC C Q ims L c G := fun a w hf hs => h a w hf hs.ims
theorem kc_dropL {H : Hp} {c : Code} (h : KC C Q ims L c G) : KC C Q ims (H :: L) c G := fun a w hf hs => h a w hf hs.dropL
/-- Behind a code that ends as it should, the post at hand. -/
def KQ (C : Cx) (ims L : List Hp) (G : Env) (p : Act → World → Prop) : Prop := ∀ a w, Fit C.m G a → St C.B C.X ims L w → p a w
theorem kq_code {c : Code} (h : KC C Q ims L c G) : KQ C ims L G (c.wpIn (FW C.R) 0 C.P Q) := h
theorem kc_skipQ (h : KQ C ims L G (Q .normal)) : KC C Q ims L .skip G := fun a w hf hs => wpIn_skip (h a w hf hs)
theorem kc_exit {id : Nat} (h : KQ C ims L G (Q (.exit id))) : KC C Q ims L (.exit id) G := fun a w hf hs => wpIn_exit (h a w hf hs)
theorem kc_ret (h : KQ C ims L G (Q .ret)) : KC C Q ims L .ret G := fun a w hf hs => wpIn_ret (h a w hf hs)
theorem kc_region {id : Nat} {l : List Oper} (h : KL C false l.toArray Q ims L [] l G) (hd : noDef l = true := by rfl) : KC C Q ims L (.region id l.toArray false) G :=
  fun a w hf hs => wpIn_region_seqL hd hs.w (h a w hf hs)
theorem St.drew {B : World} {X : Side} {ims L : List Hp} {w : World} (h : St B X ims L w) : St B X ims L { w with drawn := w.drawn + 1 } := h.call ⟨Nat.le_refl _, fun _ _ _ => rfl, ⟨rfl, rfl⟩⟩
theorem kc_draw {id : Nat} {l : List Oper} (f : Nat) (fl : List Bool) (hm : C.P.follows .mixedOrders = true) (hB : (Region.noSelect l.toArray && seqOk l.toArray f fl l.length 0 (Array.replicate l.length false)) = true)
    (h : KL C true l.toArray (Only Q) ims L fl l G) (hd : noDef l = true := by rfl) : KC C Q ims L (.region id l.toArray true) G := fun a w hf hs => by
  rw [Bool.and_eq_true] at hB
  exact wpIn_region_seq f fl hd hm hB.1 hB.2 hs.drew.w (h a _ hf hs.drew)
/-- The low form: for regions that write what they have made themselves. -/
theorem kc_drawS {P : Program} {n : Nat} {B : World} {X : Side} {df : List Deferred} {R : Option Nat} {id : Nat} {l : List Oper} (f : Nat) (fl : List Bool) (hm : P.follows .mixedOrders = true) (hB : (Region.noSelect l.toArray && seqOk l.toArray f fl l.length 0 (Array.replicate l.length false)) = true)
    (h : KL ⟨P, n, B, X, true, df, R⟩ true l.toArray (Only Q) ims L fl l G) (hd : noDef l = true := by rfl) : KC ⟨P, n, B, X, false, df, R⟩ Q ims L (.region id l.toArray true) G := fun a w hf hs => by
  rw [Bool.and_eq_true] at hB
  exact wpIn_region_seq f fl hd hm hB.1 hB.2 hs.drew.w (h a _ hf hs.drew)
theorem kl_nilS {P : Program} {n : Nat} {B : World} {X : Side} {df : List Deferred} {R : Option Nat} {dr : Bool} {ops : Array Oper} {fl : List Bool} (h : KQ ⟨P, n, B, X, false, df, R⟩ ims L G (Q .normal)) : KL ⟨P, n, B, X, true, df, R⟩ dr ops Q ims L fl [] G := fun a w hf hs => h a w hf hs
theorem kl_nil {dr : Bool} {ops : Array Oper} {fl : List Bool} (h : KQ C ims L G (Q .normal)) : KL C dr ops Q ims L fl [] G := fun a w hf hs => h a w hf hs
/-- The test of a Bool. -/
theorem kc_cond {t : Nat} {x y : Code} {b : Bool} (hv : look t G = some (.bool b)) (h1 : b = true → KC C Q ims L x G) (h2 : b = false → KC C Q ims L y G) :
    KC C Q ims L (.cond (.tmp t) x y) G := fun a w hf hs => by
  have he : a.eval (.tmp t) = .bool b := (hf.get t _ hv).2
  refine wpIn_cond he ?_
  cases b with
  | true => exact h1 rfl a w hf hs
  | false => exact h2 rfl a w hf hs
/-- The test of a proposition. -/
theorem kc_if {t : Nat} {x y : Code} {p : Prop} {dp : Decidable p} (hv : look t G = some (.bool (@decide p dp))) (h1 : p → KC C Q ims L x G) (h2 : ¬ p → KC C Q ims L y G) :
    KC C Q ims L (.cond (.tmp t) x y) G := kc_cond hv (fun h => h1 (of_decide_eq_true h)) (fun h => h2 (of_decide_eq_false h))
/-- A loop: x is the state; If, Lf, Gf: the heaplets and the slots as functions of it; Gx: the slots that the body does not write. -/
theorem kc_loop {A : Type} {body : Code} (J : A → Prop) (mu : A → Nat) (If Lf : A → List Hp) (Gf : A → Env) (x0 : A) {Gx : Env} {ims0 : List Hp}
    (hx : Pick G Gx) (hg : Pick G (Gf x0)) (hi : ims = If x0 ++ ims0) (hl : L = Lf x0) (h0 : J x0)
    (round : ∀ x, J x → KC C (Exit.then (fun a w => ∃ x', mu x' < mu x ∧ J x' ∧ Fit C.m (Gf x' ++ Gx) a ∧ St C.B C.X (If x' ++ ims0) (Lf x') w) Q) (If x ++ ims0) (Lf x) body (Gf x ++ Gx)) :
    KC C Q ims L (.loop body) G := fun a w hf hs => by
  subst hi hl
  have key : ∀ m x a w, mu x = m → J x → Fit C.m (Gf x ++ Gx) a → St C.B C.X (If x ++ ims0) (Lf x) w → (Code.loop body).wpIn (FW C.R) 0 C.P Q a w := by
    intro m x a w _ hJ hF hS
    refine wpIn_loop (I := fun a w => ∃ x, J x ∧ Fit C.m (Gf x ++ Gx) a ∧ St C.B C.X (If x ++ ims0) (Lf x) w)
      (μ := fun a w => Classical.epsilon fun m => (∃ x, mu x = m ∧ J x ∧ Fit C.m (Gf x ++ Gx) a ∧ St C.B C.X (If x ++ ims0) (Lf x) w) ∧ ∀ x, J x → Fit C.m (Gf x ++ Gx) a → St C.B C.X (If x ++ ims0) (Lf x) w → m ≤ mu x) ⟨x, hJ, hF, hS⟩ ?_
    intro a w hI
    have hmin : ∃ m, (∃ x, mu x = m ∧ J x ∧ Fit C.m (Gf x ++ Gx) a ∧ St C.B C.X (If x ++ ims0) (Lf x) w) ∧ ∀ x, J x → Fit C.m (Gf x ++ Gx) a → St C.B C.X (If x ++ ims0) (Lf x) w → m ≤ mu x := by
      have aux : ∀ k, (∃ x, mu x = k ∧ J x ∧ Fit C.m (Gf x ++ Gx) a ∧ St C.B C.X (If x ++ ims0) (Lf x) w) → ∃ m, (∃ x, mu x = m ∧ J x ∧ Fit C.m (Gf x ++ Gx) a ∧ St C.B C.X (If x ++ ims0) (Lf x) w) ∧ ∀ x, J x → Fit C.m (Gf x ++ Gx) a → St C.B C.X (If x ++ ims0) (Lf x) w → m ≤ mu x := by
        intro k
        induction k using Nat.strongRecOn with
        | _ k ih =>
          intro hk
          by_cases hlow : ∃ x, mu x < k ∧ J x ∧ Fit C.m (Gf x ++ Gx) a ∧ St C.B C.X (If x ++ ims0) (Lf x) w
          · obtain ⟨x, h1, h2⟩ := hlow
            exact ih (mu x) h1 ⟨x, rfl, h2⟩
          · exact ⟨k, hk, fun x h1 h2 h3 => Nat.le_of_not_lt fun h4 => hlow ⟨x, h4, h1, h2, h3⟩⟩
      obtain ⟨x, hx⟩ := hI
      exact aux (mu x) ⟨x, rfl, hx⟩
    obtain ⟨⟨x, hm, hJ, hF, hS⟩, hle⟩ := Classical.epsilon_spec hmin
    refine wpIn_mono (round x hJ a w hF hS) ?_
    intro e a' w' hq
    cases e with
    | normal =>
      obtain ⟨x', hlt, hJ', hF', hS'⟩ := hq
      refine ⟨⟨x', hJ', hF', hS'⟩, ?_⟩
      have hmin' : ∃ m, (∃ x, mu x = m ∧ J x ∧ Fit C.m (Gf x ++ Gx) a' ∧ St C.B C.X (If x ++ ims0) (Lf x) w') ∧ ∀ x, J x → Fit C.m (Gf x ++ Gx) a' → St C.B C.X (If x ++ ims0) (Lf x) w' → m ≤ mu x := by
        have aux : ∀ k, (∃ x, mu x = k ∧ J x ∧ Fit C.m (Gf x ++ Gx) a' ∧ St C.B C.X (If x ++ ims0) (Lf x) w') → ∃ m, (∃ x, mu x = m ∧ J x ∧ Fit C.m (Gf x ++ Gx) a' ∧ St C.B C.X (If x ++ ims0) (Lf x) w') ∧ ∀ x, J x → Fit C.m (Gf x ++ Gx) a' → St C.B C.X (If x ++ ims0) (Lf x) w' → m ≤ mu x := by
          intro k
          induction k using Nat.strongRecOn with
          | _ k ih =>
            intro hk
            by_cases hlow : ∃ x, mu x < k ∧ J x ∧ Fit C.m (Gf x ++ Gx) a' ∧ St C.B C.X (If x ++ ims0) (Lf x) w'
            · obtain ⟨x, h1, h2⟩ := hlow
              exact ih (mu x) h1 ⟨x, rfl, h2⟩
            · exact ⟨k, hk, fun x h1 h2 h3 => Nat.le_of_not_lt fun h4 => hlow ⟨x, h4, h1, h2, h3⟩⟩
        exact aux (mu x') ⟨x', rfl, hJ', hF', hS'⟩
      have h4 := (Classical.epsilon_spec hmin').2 x' hJ' hF' hS'
      exact Nat.lt_of_le_of_lt h4 (hm ▸ hlt)
    | exit id => exact hq
    | goto l => exact hq
    | ret => exact hq
    | panic c => exact hq
    | outgrown => exact hq
  exact key _ x0 a w rfl h0 ((hg.app hx).fit hf) hs
/-- The end of a round. -/
theorem kq_round {A : Type} {J : A → Prop} {mu : A → Nat} {If Lf : A → List Hp} {Gf : A → Env} {x : A} {Gx : Env} {ims0 L' : List Hp} (x' : A)
    (hlt : mu x' < mu x) (hJ : J x') (hg : Pick G (Gf x')) (hx : Pick G Gx) (hi : AllIn (If x' ++ ims0) ims) (hl : L' = Lf x') (hs : List.Sublist L' L) :
    KQ C ims L G (fun a w => ∃ x', mu x' < mu x ∧ J x' ∧ Fit C.m (Gf x' ++ Gx) a ∧ St C.B C.X (If x' ++ ims0) (Lf x') w) :=
  fun a w hf hs' => ⟨x', hlt, hJ, (hg.app hx).fit hf, by subst hl; exact hs'.weak (i := hi) hs⟩
end codes

/-! ### Operations -/
section ops
variable {C : Cx} {dr : Bool} {ops : Array Oper} {Q : Post} {ims L : List Hp} {G : Env} {fl : List Bool} {rest : List Oper}
  {d ty : Nat} {pos : String} {af : Array Edge}

/-- What is behind a value: the operation with its guard struck. -/
theorem kl_gT {od : Option Nat} {op : Op} {j dj : Nat} {b : Bool} (hj : (ops[j]?).bind (·.dst) = some dj) (hv : look dj G = some (.bool b)) {c : Bool} (hb : b = c)
    (h : KL C dr ops Q ims L fl (⟨od, op, ty, pos, af, none⟩ :: rest) G) : KL C dr ops Q ims L fl (⟨od, op, ty, pos, af, some (j, c)⟩ :: rest) G := fun a w hf hs => by
  have h1 := h a w hf hs
  obtain ⟨h2, h3⟩ := hf.get dj _ hv
  have hy : yielded ops a.tmps j = some c := by
    subst hb
    unfold yielded
    rw [hj]
    simp only [Option.bind_some]
    have : a.tmps[dj]? = some (.bool b) := by
      rw [Array.getElem?_eq_getElem (by rw [hf.size]; exact h2)]
      rw [← h3]
      simp [Array.getD, hf.size, h2]
    rw [this]
  unfold wpSeq at h1 ⊢
  simp only [Region.wanted, hy, beq_self_eq_true, if_true] at h1 ⊢
  exact h1
theorem kl_gF {op : Op} {j dj : Nat} {b : Bool} (hj : (ops[j]?).bind (·.dst) = some dj) (hv : look dj G = some (.bool b)) {c : Bool} (hb : b = !c)
    (h : KL C dr ops Q ims L fl.tail rest ((d, undef) :: G)) (hlt : Nat.blt d C.n = true := by rfl) : KL C dr ops Q ims L fl (⟨some d, op, ty, pos, af, some (j, c)⟩ :: rest) G := fun a w hf hs => by
  obtain ⟨h2, h3⟩ := hf.get dj _ hv
  have hy : yielded ops a.tmps j = some b := by
    unfold yielded
    rw [hj]
    simp only [Option.bind_some]
    have : a.tmps[dj]? = some (.bool b) := by
      rw [Array.getElem?_eq_getElem (by rw [hf.size]; exact h2)]
      rw [← h3]
      simp [Array.getD, hf.size, h2]
    rw [this]
  unfold wpSeq
  have : Region.wanted ⟨some d, op, ty, pos, af, some (j, c)⟩ (yielded ops a.tmps) = false := by
    subst hb
    cases c <;> simp [Region.wanted, hy]
  rw [if_neg (by simp [this])]
  exact h _ w (hf.put (by simpa [Nat.blt_eq, Cx.m] using hlt)) hs

def Ev (G : Env) (r : Operand → Value) : Prop := ∀ x v, ev G x = some v → r x = v
theorem Fit.toEv {n : Nat × List Deferred} {a : Act} (h : Fit n G a) : Ev G a.eval := fun _ _ hx => h.ev hx
/-- An operation that yields a value in every world that fits. -/
theorem kl_y {op : Op} {v : Value} (hy : ∀ (r : Operand → Value) w, Ev G r → St C.B C.X ims (C.W L) w → (execOp r ⟨some d, op, ty, pos, af, none⟩).run C.P w = .ok (.value v) w)
    (h : KL C dr ops Q ims L fl.tail rest ((d, v) :: G)) (hlt : Nat.blt d C.n = true) : KL C dr ops Q ims L fl (⟨some d, op, ty, pos, af, none⟩ :: rest) G := fun a w hf hs => by
  unfold wpSeq
  rw [if_pos (by simp [Region.wanted])]
  exact .inl ⟨v, fun w' hs' => hy a.eval w' hf.toEv hs', h _ w (hf.put (by simpa [Nat.blt_eq, Cx.m] using hlt)) hs⟩

theorem kl_mv {x : Operand} {v : Value} (hx : ev G x = some v) (h : KL C dr ops Q ims L fl.tail rest ((d, v) :: G)) (hlt : Nat.blt d C.n = true := by rfl) :
    KL C dr ops Q ims L fl (⟨some d, .move x, ty, pos, af, none⟩ :: rest) G :=
  kl_y (fun a w hf _ => by simp [go_sem, hf _ _ hx]) h hlt
theorem kl_as {x : Operand} {v : Value} (hx : ev G x = some v) (h : KL C dr ops Q ims L fl.tail rest ((d, v) :: G)) (hlt : Nat.blt d C.n = true := by rfl) :
    KL C dr ops Q ims L fl (⟨some d, .assign x, ty, pos, af, none⟩ :: rest) G :=
  kl_y (fun a w hf _ => by simp [go_sem, hf _ _ hx]) h hlt
theorem kl_pickT {c x y : Operand} {b : Bool} {v : Value} (hc : ev G c = some (.bool b)) (hb : b = true) (hx : ev G x = some v) (h : KL C dr ops Q ims L fl.tail rest ((d, v) :: G)) (hlt : Nat.blt d C.n = true := by rfl) :
    KL C dr ops Q ims L fl (⟨some d, .pick c x y, ty, pos, af, none⟩ :: rest) G :=
  kl_y (fun a w hf _ => by subst hb; simp [go_sem, hf _ _ hc, hf _ _ hx]) h hlt
theorem kl_pickF {c x y : Operand} {b : Bool} {v : Value} (hc : ev G c = some (.bool b)) (hb : b = false) (hx : ev G y = some v) (h : KL C dr ops Q ims L fl.tail rest ((d, v) :: G)) (hlt : Nat.blt d C.n = true := by rfl) :
    KL C dr ops Q ims L fl (⟨some d, .pick c x y, ty, pos, af, none⟩ :: rest) G :=
  kl_y (fun a w hf _ => by subst hb; simp [go_sem, hf _ _ hc, hf _ _ hx]) h hlt

/-! Integers. -/
def I64 (z : Int) : Prop := -9223372036854775808 ≤ z ∧ z ≤ 9223372036854775807
theorem wrap_in {z : Int} (h : -9223372036854775808 ≤ z ∧ z ≤ 9223372036854775807) : IntKind.i64.wrap z = z := by rw [IntKind.wrap_i64]; omega

section ints
variable {x y : Operand} {T T2 : Nat} {m k : Int} (hx : ev G x = some (.int .i64 m)) (hy : ev G y = some (.int .i64 k))
include hx hy
theorem kl_add (hb : -9223372036854775808 ≤ m + k ∧ m + k ≤ 9223372036854775807) (h : KL C dr ops Q ims L fl.tail rest ((d, .int .i64 (m + k)) :: G)) (hlt : Nat.blt d C.n = true := by rfl) :
    KL C dr ops Q ims L fl (⟨some d, .binOp .add T x y T2, ty, pos, af, none⟩ :: rest) G :=
  kl_y (fun a w hf _ => by simp [go_sem, hf _ _ hx, hf _ _ hy, wrap_in hb]) h hlt
theorem kl_sub (hb : -9223372036854775808 ≤ m - k ∧ m - k ≤ 9223372036854775807) (h : KL C dr ops Q ims L fl.tail rest ((d, .int .i64 (m - k)) :: G)) (hlt : Nat.blt d C.n = true := by rfl) :
    KL C dr ops Q ims L fl (⟨some d, .binOp .sub T x y T2, ty, pos, af, none⟩ :: rest) G :=
  kl_y (fun a w hf _ => by simp [go_sem, hf _ _ hx, hf _ _ hy, wrap_in hb]) h hlt
theorem kl_mul (hb : -9223372036854775808 ≤ m * k ∧ m * k ≤ 9223372036854775807) (h : KL C dr ops Q ims L fl.tail rest ((d, .int .i64 (m * k)) :: G)) (hlt : Nat.blt d C.n = true := by rfl) :
    KL C dr ops Q ims L fl (⟨some d, .binOp .mul T x y T2, ty, pos, af, none⟩ :: rest) G :=
  kl_y (fun a w hf _ => by simp [go_sem, hf _ _ hx, hf _ _ hy, wrap_in hb]) h hlt
theorem kl_addw (h : KL C dr ops Q ims L fl.tail rest ((d, .int .i64 (IntKind.i64.wrap (m + k))) :: G)) (hlt : Nat.blt d C.n = true := by rfl) :
    KL C dr ops Q ims L fl (⟨some d, .binOp .add T x y T2, ty, pos, af, none⟩ :: rest) G :=
  kl_y (fun a w hf _ => by simp [go_sem, hf _ _ hx, hf _ _ hy]) h hlt
theorem kl_lss (h : KL C dr ops Q ims L fl.tail rest ((d, .bool (decide (m < k))) :: G)) (hlt : Nat.blt d C.n = true := by rfl) :
    KL C dr ops Q ims L fl (⟨some d, .binOp .lss T x y T2, ty, pos, af, none⟩ :: rest) G :=
  kl_y (fun a w hf _ => by simp [go_sem, hf _ _ hx, hf _ _ hy]) h hlt
theorem kl_leq (h : KL C dr ops Q ims L fl.tail rest ((d, .bool (decide (m ≤ k))) :: G)) (hlt : Nat.blt d C.n = true := by rfl) :
    KL C dr ops Q ims L fl (⟨some d, .binOp .leq T x y T2, ty, pos, af, none⟩ :: rest) G :=
  kl_y (fun a w hf _ => by simp [go_sem, hf _ _ hx, hf _ _ hy]) h hlt
theorem kl_gtr (h : KL C dr ops Q ims L fl.tail rest ((d, .bool (decide (k < m))) :: G)) (hlt : Nat.blt d C.n = true := by rfl) :
    KL C dr ops Q ims L fl (⟨some d, .binOp .gtr T x y T2, ty, pos, af, none⟩ :: rest) G :=
  kl_y (fun a w hf _ => by simp [go_sem, hf _ _ hx, hf _ _ hy]) h hlt
theorem kl_geq (h : KL C dr ops Q ims L fl.tail rest ((d, .bool (decide (k ≤ m))) :: G)) (hlt : Nat.blt d C.n = true := by rfl) :
    KL C dr ops Q ims L fl (⟨some d, .binOp .geq T x y T2, ty, pos, af, none⟩ :: rest) G :=
  kl_y (fun a w hf _ => by simp [go_sem, hf _ _ hx, hf _ _ hy]) h hlt
theorem kl_eql (h : KL C dr ops Q ims L fl.tail rest ((d, .bool (decide (m = k))) :: G)) (hlt : Nat.blt d C.n = true := by rfl) :
    KL C dr ops Q ims L fl (⟨some d, .binOp .eql T x y T2, ty, pos, af, none⟩ :: rest) G :=
  kl_y (fun a w hf _ => by simp [go_sem, hf _ _ hx, hf _ _ hy]; rfl) h hlt
theorem kl_neq (h : KL C dr ops Q ims L fl.tail rest ((d, .bool (decide (m ≠ k))) :: G)) (hlt : Nat.blt d C.n = true := by rfl) :
    KL C dr ops Q ims L fl (⟨some d, .binOp .neq T x y T2, ty, pos, af, none⟩ :: rest) G :=
  kl_y (fun a w hf _ => by simp [go_sem, hf _ _ hx, hf _ _ hy, bne]; rw [Bool.eq_iff_iff]; simp) h hlt
theorem kl_quo (hk : k ≠ 0) (hb : -9223372036854775808 ≤ m.tdiv k ∧ m.tdiv k ≤ 9223372036854775807) (h : KL C dr ops Q ims L fl.tail rest ((d, .int .i64 (m.tdiv k)) :: G)) (hlt : Nat.blt d C.n = true := by rfl) :
    KL C dr ops Q ims L fl (⟨some d, .binOp .quo T x y T2, ty, pos, af, none⟩ :: rest) G :=
  kl_y (fun a w hf _ => by simp [go_sem, hf _ _ hx, hf _ _ hy, hk, wrap_in hb]) h hlt
theorem kl_rem (hk : k ≠ 0) (h : KL C dr ops Q ims L fl.tail rest ((d, .int .i64 (m.tmod k)) :: G)) (hlt : Nat.blt d C.n = true := by rfl) :
    KL C dr ops Q ims L fl (⟨some d, .binOp .rem T x y T2, ty, pos, af, none⟩ :: rest) G :=
  kl_y (fun a w hf _ => by simp [go_sem, hf _ _ hx, hf _ _ hy, hk]) h hlt
end ints
end ops
end Go.Proofs.Ytcdemjjgmnbkfaa
