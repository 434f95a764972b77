/- Parts of the proof: a logic of partial frames, plain functions, walks of the program's functions. Conditions: those that each statement names. -/
import Derived.Test.YtolndgeihijlbaaGreatKExactProveBound1
import Derived.Laws.Bits64
import Derived.WalkSpells
import Derived.Laws.BitsLemmas
import Derived.MapKept
namespace Go.Proofs.YtolndgeihijlbaaGreat
open Go
set_option linter.unusedSimpArgs false
set_option linter.unusedVariables false
section
/-- What a word on the world must bear while a call does what it likes to what is its own. -/
def JOk (j : (Nat → Prop) → World → Prop) : Prop :=
  ∀ {D D' : Nat → Prop} {w w' : World}, j D w → w.heap.size ≤ w'.heap.size → (∀ b, b < w.heap.size → ¬ D b → w'.heap[b]? = w.heap[b]?) → Io w w' → (∀ b, D' b → (D b ∨ w.heap.size ≤ b) ∧ b < w'.heap.size) → j D' w'
def Side.it (j : (Nat → Prop) → World → Prop) (ok : JOk j) : Side := ⟨0, fun _ => True, j, ok⟩
theorem cont_ex {D : Nat → Prop} {w : World} (h : ∀ b, D b → b < w.heap.size) : ∃ K : Hp, (∀ b, K b ≠ none ↔ D b) ∧ Agree K w := by
  classical
  refine ⟨fun b => if D b then w.heap[b]? else none, fun b => ?_, fun b o hb => ?_⟩
  · by_cases hd : D b
    · simp [hd, h b hd]
    · simp [hd]
  · by_cases hd : D b
    · simpa [hd] using hb
    · simp [hd] at hb

/-! ### The caller's state while the iterator runs -/
structure Car (B : World) (X : Side) (ims L : List Hp) (D : Nat → Prop) (w : World) : Prop where
  size : B.heap.size ≤ w.heap.size
  ext : ∀ b, b < B.heap.size → ¬ X.x b → w.heap[b]? = B.heap[b]?
  im : ∀ H ∈ ims, Agree H w
  own : ∀ H ∈ L, Agree H w ∧ (∀ b, H b ≠ none → B.heap.size ≤ b ∨ X.x b) ∧ ∀ I ∈ ims, Apart H I
  nd : L.Pairwise Apart
  io : Io B w
  j : X.j (fun b => dm B ims L b ∨ D b) w
  mrk : X.m ≤ w.heap.size
  lt : ∀ b, D b → B.heap.size ≤ b ∧ b < w.heap.size
  ap : ∀ b, D b → ∀ H, H ∈ ims ∨ H ∈ L → H b = none
section car
variable {B : World} {X : Side} {ims L : List Hp} {D D' : Nat → Prop} {w w' : World}
theorem St.lt (h : St B X ims L w) {b : Nat} (hb : dm B ims L b) : b < w.heap.size := dm_lt (B := B) h.im (fun H hH => (h.own H hH).1) hb
theorem Car.of (h : St B X ims L w) : Car B X ims L (fun _ => False) w :=
  ⟨h.size, h.ext, h.im, h.own, h.nd, h.io, X.ok h.j (Nat.le_refl _) (fun _ _ _ => rfl) (Io.refl _) (fun b hb => by
    rcases hb with hb | hb
    · exact ⟨.inl hb, h.lt hb⟩
    · exact hb.elim), h.mrk, fun _ h => h.elim, fun _ h => h.elim⟩
theorem Car.back (h : Car B X ims L (fun _ => False) w) : St B X ims L w :=
  ⟨h.size, h.ext, h.im, h.own, h.nd, h.io, X.ok h.j (Nat.le_refl _) (fun _ _ _ => rfl) (Io.refl _) (fun b hb => ⟨.inl (.inl hb), dm_lt (B := B) h.im (fun H hH => (h.own H hH).1) hb⟩), h.mrk⟩
theorem Car.ok (h : Car B X ims L D w) (hs : w.heap.size ≤ w'.heap.size) (he : ∀ b, b < w.heap.size → ¬ D b → w'.heap[b]? = w.heap[b]?) (hio : Io w w') (hd : ∀ b, D' b → (D b ∨ w.heap.size ≤ b) ∧ b < w'.heap.size) : Car B X ims L D' w' := by
  have keep : ∀ H, H ∈ ims ∨ H ∈ L → Agree H w → Agree H w' := fun H hH hA b o hb => by
    have hn : ¬ D b := fun hd => by rw [h.ap b hd H hH] at hb; cases hb
    rw [he b (hA.lt hb) hn]; exact hA b o hb
  refine ⟨Nat.le_trans h.size hs, fun b hb hx => ?_, fun H hH => keep H (.inl hH) (h.im H hH), fun H hH => ⟨keep H (.inr hH) (h.own H hH).1, (h.own H hH).2⟩, h.nd, h.io.trans hio, ?_, Nat.le_trans h.mrk hs, fun b hb => ?_, fun b hb H hH => ?_⟩
  · rw [he b (Nat.lt_of_lt_of_le hb h.size) (fun hd => by have := (h.lt b hd).1; omega)]; exact h.ext b hb hx
  · refine X.ok h.j hs (fun b hb hn => he b hb (fun hd => hn (.inr hd))) hio (fun b hb => ?_)
    rcases hb with hb | hb
    · exact ⟨.inl (.inl hb), Nat.lt_of_lt_of_le (dm_lt (B := B) h.im (fun H hH => (h.own H hH).1) hb) hs⟩
    · exact ⟨(hd b hb).1.imp .inr id, (hd b hb).2⟩
  · rcases (hd b hb).1 with h1 | h1
    · exact ⟨(h.lt b h1).1, (hd b hb).2⟩
    · exact ⟨Nat.le_trans h.size h1, (hd b hb).2⟩
  · rcases (hd b hb).1 with h1 | h1
    · exact h.ap b h1 H hH
    · cases hh : H b with
      | none => rfl
      | some o =>
        have hA : Agree H w := by
          rcases hH with hH | hH
          · exact h.im H hH
          · exact (h.own H hH).1
        exact absurd (hA.lt hh) (Nat.not_lt.2 h1)
theorem Car.enter (h : Car B X ims L D w) {K : Hp} (hK : ∀ b, K b ≠ none ↔ D b) (hA : Agree K w) : St B (X.mark w.heap.size) (K :: ims) L w :=
  ⟨h.size, h.ext, fun H hH => by
      cases hH with
      | head => exact hA
      | tail _ hH => exact h.im H hH,
   fun H hH => ⟨(h.own H hH).1, (h.own H hH).2.1, fun I hI => by
      cases hI with
      | head =>
        intro b
        by_cases hb : K b = none
        · exact .inr hb
        · exact .inl (h.ap b ((hK b).1 hb) H (.inr hH))
      | tail _ hI => exact (h.own H hH).2.2 I hI⟩, h.nd, h.io, X.ok h.j (Nat.le_refl _) (fun _ _ _ => rfl) (Io.refl _) (fun b hb => by
      rcases hb with hb | ⟨hB, H, hH, hb⟩
      · exact ⟨.inl (.inl (.inl hb)), dm_lt (B := B) h.im (fun H hH => (h.own H hH).1) (.inl hb)⟩
      · cases hH with
        | head => exact ⟨.inl (.inr ((hK b).1 hb)), (h.lt b ((hK b).1 hb)).2⟩
        | tail _ hH => exact ⟨.inl (.inl (.inr ⟨hB, H, hH, hb⟩)), dm_lt (B := B) h.im (fun H hH => (h.own H hH).1) (.inr ⟨hB, H, hH, hb⟩)⟩), Nat.le_refl _⟩
theorem Car.leave {K : Hp} {m : Nat} (h : St B (X.mark m) (K :: ims) L w) (hm : X.m ≤ m) (hK : ∀ b, K b ≠ none ↔ D b) (hB : ∀ b, D b → B.heap.size ≤ b) (hap : ∀ b, D b → ∀ H ∈ ims, H b = none) : Car B X ims L D w :=
  ⟨h.size, h.ext, fun H hH => h.im H (.tail _ hH), fun H hH => ⟨(h.own H hH).1, (h.own H hH).2.1, fun I hI => (h.own H hH).2.2 I (.tail _ hI)⟩, h.nd, h.io,
   X.ok h.j (Nat.le_refl _) (fun _ _ _ => rfl) (Io.refl _) (fun b hb => by
      have : dm B (K :: ims) L b := by
        rcases hb with (hb | ⟨hb, H, hH, hh⟩) | hb
        · exact .inl hb
        · exact .inr ⟨hb, H, .tail _ hH, hh⟩
        · exact .inr ⟨hB b hb, K, .head _, (hK b).2 hb⟩
      exact ⟨.inl this, h.lt this⟩), Nat.le_trans hm h.mrk,
   fun b hb => ⟨hB b hb, by
      cases hh : K b with
      | none => exact absurd hh ((hK b).2 hb)
      | some o => exact (h.im K (.head _)).lt hh⟩,
   fun b hb H hH => by
      rcases hH with hH | hH
      · exact hap b hb H hH
      · exact ((h.own H hH).2.2 K (.head _) b).resolve_right ((hK b).2 hb)⟩
end car

/-! ### The iterator's contract -/
/-- One call of yield, seen by the iterator: what is its own (K) lies as it lay. -/
def Yields (P : Program) (l : Nat) (ims : List Hp) (K : Hp) (v : Value) (j jx : World → Prop) (W : World) : Prop :=
  YieldAt (FW none) 0 P l #[v] W (fun e W' => W.heap.size ≤ W'.heap.size ∧ Io W W' ∧ Agree K W' ∧ (∀ I ∈ ims, Agree I W') ∧ ((e = .returned (.bool true) ∧ j W') ∨ (e = .returned (.bool false) ∧ jx W')))
/-- What the rounds give, n rounds gone: whatever the iterator's own memory, so long as v reads as the n-th list. -/
def Rounds (P : Program) (l : Nat) (ims : List Hp) (xs : List (List Int)) (J : Nat → (Nat → Prop) → World → Prop) (Jx : (Nat → Prop) → World → Prop) : Prop :=
  ∀ n, n < xs.length → ∀ D W K v, J n D W → (∀ b, K b ≠ none ↔ D b) → Agree K W → Ints K v (xs.getD n []) → Yields P l ims K v (J (n + 1) D) (Jx D) W
/-- Called at yield, the function yields xs, in order, and ends as soon as yield says so. -/
def ItSpec (P : Program) (g : Nat) (caps : List Value) (ims : List Hp) (xs : List (List Int)) : Prop :=
  ∀ (l : Nat) (J : Nat → (Nat → Prop) → World → Prop) (Jx : (Nat → Prop) → World → Prop), (∀ n, JOk (J n)) → JOk Jx → Rounds P l ims xs J Jx →
    ∀ W, (∀ I ∈ ims, Agree I W) → J 0 (fun _ => False) W →
      Calls P g (Value.func (.yield l) #[] #[] :: caps).toArray W (fun e W' => ∃ v, e = .returned v ∧ (J xs.length (fun _ => False) W' ∨ Jx (fun _ => False) W'))

/-! ### The caller's side -/
def rdy (l : Nat) (r : Loop) : Hp := sing l (.loop { r with state := .ready, pending := none })
def bsy (l : Nat) (r : Loop) : Hp := sing l (.loop { r with state := .busy, pending := none })
def dne (l : Nat) (r : Loop) (c : Code) : Hp := sing l (.loop { r with state := .done, pending := some c })
def dfb (b : Nat) : Hp := sing b (.deferred (some []))
/-- How a round's body may be left. -/
def RPost {A : Type} (B : World) (X : Side) (ims : List Hp) (Lf : A → List Hp) (inv : A → Prop) (invx : Code → A → Prop) (Hb : Hp) : Post
  | .normal, _, w => ∃ s, inv s ∧ St B X ims (Hb :: Lf s) w
  | .ret, _, w => ∃ s, invx .ret s ∧ St B X ims (Hb :: Lf s) w
  | .exit id, _, w => ∃ s, invx (.exit id) s ∧ St B X ims (Hb :: Lf s) w
  | _, _, _ => False
/-- Behind the assignment to the loop's variable: the round begins. -/
def AP (C : Cx) (l : Nat) (Qb : Post) (body : Code) : Post := fun e a w => e = .normal ∧ ∃ w₂, (Instr.beginRound l).run C.P w = .ok () w₂ ∧ body.wpIn (FW C.R) 0 C.P Qb a w₂
theorem St.put {B : World} {X : Side} {ims L L' : List Hp} {w : World} {b : Nat} {o o' : Obj} (h : St B X ims L w) [u : Upd (sing b o) (sing b o') L L'] : St B X ims L' (w.putObj b o') := by
  have hA : w.heap[b]? = some o := (h.own _ u.u.mem).1 b o (sing_self b o)
  have hlt : b < w.heap.size := (Array.getElem?_eq_some_iff.1 hA).1
  refine h.upd (H := sing b o) (H' := sing b o') (u := u) (by rw [World.putObj_size]; exact Nat.le_refl _) (fun k _ hk => World.putObj_heap_other (fun e => by subst e; simp at hk)) (fun k o2 hk => ?_) (fun k hk => .inl ?_) ⟨rfl, rfl⟩
  · obtain ⟨rfl, rfl⟩ := sing_some hk
    exact World.putObj_heap_same hlt
  · by_cases e : k = b
    · subst e; simp
    · simp [sing, e] at hk
section rounds
variable {C : Cx} {ims L L' : List Hp} {G : Env} {l : Nat} {r : Loop}
theorem kq_begin {Qb : Post} {body : Code} [u : Upd (rdy l r) (bsy l r) L L'] (h : KC C Qb ims L' body G) : KQ C ims L G (AP C l Qb body .normal) := fun a w hf hs => by
  have hl : w.heap[l]? = some (.loop { r with state := .ready, pending := none }) := (hs.own _ u.u.mem).1 _ _ (sing_self _ _)
  exact ⟨rfl, _, run_beginRound hl rfl, h a _ hf (hs.put (u := u))⟩
variable {A : Type} {ims0 : List Hp} {Lf : A → List Hp} {inv : A → Prop} {invx : Code → A → Prop} {Hb : Hp}
theorem kq_rend (s : A) (hs : inv s) {L0 : List Hp} (hl : L0 = Hb :: Lf s) (hi : AllIn ims0 ims) (hL : List.Sublist L0 L) : KQ C ims L G (RPost C.B C.X ims0 Lf inv invx Hb .normal) :=
  fun _ _ _ h => ⟨s, hs, by subst hl; exact h.weak (i := hi) hL⟩
end rounds

section caller
variable {A : Type} {P : Program} {n : Nat} {B : World} {X : Side} {Q : Post} {ims : List Hp} {G G0 : Env}
/-- for x := range g { .. }, in a function that is no round itself. -/
theorem kc_range {g : Operand} {p gf : Nat} {lb : Array Value} {ims' : List Hp} {xs : List (List Int)} {assign body : Code} (Lf : A → List Hp) (inv : Nat → A → Prop) (invx : Code → A → Prop) (s0 : A)
    (hg : ev G g = some (.func (.func gf) #[] lb)) [hb : FnC P gf] (hit : ItSpec P gf lb.toList ims' xs) [hi : AllIn ims' ims] (hp : Pick G G0) (hlt : Nat.blt p n = true) {L : List Hp} (hl : L = Lf s0) (h0 : inv 0 s0)
    (round : ∀ (l m D : Nat) (r : Loop) (Hit : Hp) (v : Value) (k : Nat) (s : A), k < xs.length → inv k s → Ints Hit v (xs.getD k []) →
      KC ⟨P, n, B, X.mark m, false, [], some l⟩ (AP ⟨P, n, B, X.mark m, false, [], some l⟩ l (RPost B (X.mark m) (Hit :: dfb D :: ims) Lf (inv (k + 1)) invx (bsy l r)) body)
        (Hit :: dfb D :: ims) (rdy l r :: Lf s) assign ((p, v) :: G0))
    (done : ∀ (D : Nat) (s : A), B.heap.size ≤ D → inv xs.length s → KQ ⟨P, n, B, X, false, [{ target := .collected D, args := #[] }], none⟩ (dfb D :: ims) (Lf s) G0 (Q .normal))
    (stop : ∀ (D : Nat) (c : Code) (s : A), B.heap.size ≤ D → invx c s → KC ⟨P, n, B, X, false, [{ target := .collected D, args := #[] }], none⟩ Q (dfb D :: ims) (Lf s) c G0) :
    KC ⟨P, n, B, X, false, [], none⟩ Q ims L (.rangeFunc g #[p] assign body) G := fun a w hf hs => by
  subst hl
  refine wpIn_rangeFunc (F := FW none) ?_
  intro fn _
  obtain ⟨r, hr⟩ : ∃ r : Loop, r = { state := .ready, pending := none, fn, tmps := a.tmps, params := #[p], assign, body, defers := w.heap.size } := ⟨_, rfl⟩
  have hrr : ({ r with state := .ready, pending := none } : Loop) = r := by rw [hr]
  have hs1 : St B X ims (dfb w.heap.size :: Lf s0) (w.alloc (.deferred (some []))) := hs.push (ext_alloc w _) (agree_alloc w _) (fresh_sing (B := w) (Nat.le_refl _))
  have hs2 : St B X (dfb w.heap.size :: ims) (Lf s0) (w.alloc (.deferred (some []))) := hs1.freeze
  have hsz : (w.alloc (.deferred (some []))).heap.size = w.heap.size + 1 := by simp
  obtain ⟨W1, hW1⟩ : ∃ W1, (w.alloc (.deferred (some []))).alloc (.loop r) = W1 := ⟨_, rfl⟩
  have hs3 : St B X (dfb w.heap.size :: ims) (rdy (w.heap.size + 1) r :: Lf s0) W1 := by
    rw [← hW1]
    unfold rdy
    rw [hrr]
    have := hs2.push (ext_alloc _ (.loop r)) (agree_alloc _ (.loop r)) (fresh_sing (B := w.alloc (.deferred (some []))) (Nat.le_refl _))
    rw [hsz] at this
    exact this
  have hgv : a.eval g = .func (.func gf) #[] lb := hf.ev hg
  refine ⟨w.heap.size + 1, [{ target := .collected w.heap.size, args := #[] }], W1, { target := .fn (.func gf) lb, args := #[.func (.yield (w.heap.size + 1)) #[] #[]] }, W1, gf,
    #[.func (.yield (w.heap.size + 1)) #[] #[]] ++ lb, W1, ?_, ?_, ?_, ?_, fun e => (by cases e), ?_⟩
  · rw [← hW1, hr]; exact run_enterLoop_outer _ _ _ _ _
  · simp only [resolve, hgv]
    simp [go_sem]
  · intro f' _; trivial
  · simp [invoke, go_sem, hb.run]
  · have hargs : (#[Value.func (.yield (w.heap.size + 1)) #[] #[]] ++ lb) = (Value.func (.yield (w.heap.size + 1)) #[] #[] :: lb.toList).toArray := by
      apply Array.ext'; simp
    rw [hargs]
    refine calls_FW ((hit (w.heap.size + 1)
      (fun k D W => ∃ s, inv k s ∧ Car B X (dfb w.heap.size :: ims) (rdy (w.heap.size + 1) r :: Lf s) D W)
      (fun D W => ∃ c s, invx c s ∧ Car B X (dfb w.heap.size :: ims) (dne (w.heap.size + 1) r c :: Lf s) D W)
      (fun k {D D' w w'} h hs he hio hd => by obtain ⟨s, h1, h2⟩ := h; exact ⟨s, h1, h2.ok hs he hio hd⟩)
      (fun {D D' w w'} h hs he hio hd => by obtain ⟨c, s, h1, h2⟩ := h; exact ⟨c, s, h1, h2.ok hs he hio hd⟩) ?_ W1 (fun I hI => hs3.im I (.tail _ (hi.all I hI))) ⟨s0, h0, Car.of hs3⟩).mono ?_)
    · -- a round
      rintro k hk D W K v ⟨s, hinv, hc⟩ hK hA hv
      have hst := hc.enter hK hA
      have hl : W.heap[w.heap.size + 1]? = some (.loop r) := by
        have := (hst.own _ (.head _)).1 (w.heap.size + 1) (.loop { r with state := .ready, pending := none }) (sing_self _ _)
        rw [hrr] at this; exact this
      have hy := run_yield (P := P) (args := #[v]) hl (by rw [hr]; rfl)
      rw [show r.params = #[p] by rw [hr], show r.fn = fn by rw [hr], show r.assign = assign by rw [hr], show r.body = body by rw [hr], show r.tmps = a.tmps by rw [hr]] at hy
      refine ⟨fn, _, assign, body, hy, roundIn_of_wpIn (F := FW none) trivial ?_⟩
      have hfit : Fit (n, []) ((p, v) :: G0) { tmps := (((#[p] : Array Tmp).zip #[v]).foldl (fun tmps (t, a) => tmps.setIfInBounds t a) a.tmps), defers := [] } := by
        have h1 : Fit (n, []) G0 { tmps := a.tmps, defers := [] } := by
          have := hp.fit hf
          exact ⟨rfl, this.size, this.get⟩
        have h2 := h1.put (d := p) (v := v) (by simpa [Nat.blt_eq] using hlt)
        have e : ((#[p] : Array Tmp).zip #[v]) = #[(p, v)] := by simp
        rw [e]
        simpa [Act.put] using h2
      refine wpIn_mono (round (w.heap.size + 1) W.heap.size w.heap.size r K v k s hk hinv hv _ W hfit hst) ?_
      rintro e a₁ w₁ ⟨rfl, w₂, hbeg, hbody⟩
      refine ⟨w₂, hbeg, wpIn_mono hbody ?_⟩
      have hB : ∀ b, D b → B.heap.size ≤ b := fun b hb => (hc.lt b hb).1
      have hap : ∀ b, D b → ∀ H ∈ (dfb w.heap.size :: ims), H b = none := fun b hb H hH => hc.ap b hb H (.inl hH)
      have fin : ∀ (jump : Option Code) (s' : A) (W3 : World), St B (X.mark W.heap.size) (K :: dfb w.heap.size :: ims) (bsy (w.heap.size + 1) r :: Lf s') W3 →
          ∃ W4, (Instr.endRound (w.heap.size + 1) jump).run P W3 = .ok (.bool jump.isNone) W4 ∧ W.heap.size ≤ W4.heap.size ∧ Io W W4 ∧ Agree K W4 ∧ (∀ I ∈ ims', Agree I W4) ∧
            Car B X (dfb w.heap.size :: ims) (sing (w.heap.size + 1) (.loop { r with state := if jump.isNone then .ready else .done, pending := jump }) :: Lf s') D W4 := fun jump s' W3 h3 => by
        have hl3 : W3.heap[w.heap.size + 1]? = some (.loop { r with state := .busy, pending := none }) := (h3.own _ (.head _)).1 _ _ (sing_self _ _)
        have h4 : St B (X.mark W.heap.size) (K :: dfb w.heap.size :: ims) (sing (w.heap.size + 1) (.loop { r with state := if jump.isNone then .ready else .done, pending := jump }) :: Lf s') _ := h3.put (u := ⟨.head _⟩)
        refine ⟨_, run_endRound (P := P) jump hl3, h4.mrk, ⟨h4.io.1.trans hst.io.1.symm, h4.io.2.trans hst.io.2.symm⟩, h4.im K (.head _), fun I hI => h4.im I (.tail _ (.tail _ (hi.all I hI))), ?_⟩
        exact Car.leave h4 hc.mrk hK hB hap
      rintro e a3 W3 hpost
      cases e with
      | normal =>
        obtain ⟨s', hi', h3⟩ := hpost
        obtain ⟨W4, h1, h2, h3', h4, h5, h6⟩ := fin none s' W3 h3
        exact ⟨_, W4, h1, h2, h3', h4, h5, .inl ⟨rfl, s', hi', h6⟩⟩
      | ret =>
        obtain ⟨s', hi', h3⟩ := hpost
        obtain ⟨W4, h1, h2, h3', h4, h5, h6⟩ := fin (some .ret) s' W3 h3
        exact ⟨_, W4, h1, h2, h3', h4, h5, .inr ⟨rfl, .ret, s', hi', h6⟩⟩
      | exit id =>
        obtain ⟨s', hi', h3⟩ := hpost
        obtain ⟨W4, h1, h2, h3', h4, h5, h6⟩ := fin (some (.exit id)) s' W3 h3
        exact ⟨_, W4, h1, h2, h3', h4, h5, .inr ⟨rfl, .exit id, s', hi', h6⟩⟩
      | goto t => exact hpost.elim
      | panic ch => exact hpost.elim
      | outgrown => exact hpost.elim
    · -- behind the iterator
      have hfit : Fit (n, [{ target := .collected w.heap.size, args := #[] }]) G0 { a with defers := [{ target := .collected w.heap.size, args := #[] }] ++ a.defers } := by
        have := hp.fit hf
        exact ⟨by simp [hf.defers, Cx.m], this.size, this.get⟩
      rintro e W2 ⟨v, rfl, (⟨s, hi', hc⟩ | ⟨c, s, hi', hc⟩)⟩
      · have hst := hc.back
        have hl : W2.heap[w.heap.size + 1]? = some (.loop { r with state := .ready, pending := none }) := (hst.own _ (.head _)).1 _ _ (sing_self _ _)
        refine ⟨none, _, run_endLoop (P := P) hl (by simp), ?_⟩
        have h4 : St B X (dfb w.heap.size :: ims) (sing (w.heap.size + 1) (.loop { r with state := .exhausted, pending := none }) :: Lf s) _ := hst.put (u := ⟨.head _⟩)
        exact done _ s hs.size hi' _ _ hfit h4.dropL
      · have hst := hc.back
        have hl : W2.heap[w.heap.size + 1]? = some (.loop { r with state := .done, pending := some c }) := (hst.own _ (.head _)).1 _ _ (sing_self _ _)
        refine ⟨some c, _, run_endLoop (P := P) hl (by simp), ?_⟩
        have h4 : St B X (dfb w.heap.size :: ims) (sing (w.heap.size + 1) (.loop { r with state := .exhausted, pending := some c }) :: Lf s) _ := hst.put (u := ⟨.head _⟩)
        exact stop _ c s hs.size hi' _ _ hfit h4.dropL
end caller
end
section
def slotRun (tmps : Array Value) : ResultVar → Sem Value
  | .tmp t => pure (tmps.getD t undef)
  | .cell a t => do loadVar t (← asAddr (tmps.getD a undef))
/-- What a result's slot holds. -/
def RS (P : Program) (L : List Hp) (G : Env) (s : ResultVar) (v : Value) : Prop :=
  ∀ {n : Nat × List Deferred} {B : World} {X : Side} {ims : List Hp} (a : Act) (w : World), Fit n G a → St B X ims L w → (slotRun a.tmps s).run P w = .ok v w
theorem rs_tmp {P : Program} {L : List Hp} {G : Env} {t : Nat} {v : Value} (hv : look t G = some v) : RS P L G (.tmp t) v := fun a w hf _ => by
  simp only [slotRun, Sem.run_pure, (hf.get t v hv).2]
theorem rs_agg {P : Program} {L : List Hp} {G : Env} {c T b E k : Nat} {cs : List Value} {F : List Value → List Hp} [hT : AggC P T k] [hF : BoxF b cs E L F] (hv : look c G = some (.pointer (some ⟨b, 0, none⟩))) (hk : Nat.beq cs.length k = true) :
    RS P L G (.cell c T) (.agg cs.toArray) := fun a w hf hs => by
  have hA := (hs.own _ (hF.u cs).mem).1
  have hat : At (sing b (.cells cs.toArray E (0, 0))) (.pointer (some ⟨b, 0, none⟩)) cs := At.sing (cs := cs.toArray)
  have hc := loadCells_at (P := P) hA hat
  rw [Nat.eq_of_beq_eq_true hk] at hc
  have h1 : (loadVar T ⟨b, 0, none⟩).run P w = .ok (.agg cs.toArray) w := by
    simp only [loadVar, Sem.run_bind, Sem.run_pure, Result.andThen_ok, AggC.run, sizeOf_run hT.i, hc, if_true]
  have h2 : a.tmps.getD c undef = .pointer (some ⟨b, 0, none⟩) := (hf.get c _ hv).2
  simp only [slotRun, h2, asAddr, Sem.run_bind, Sem.run_pure, Result.andThen_ok, h1]
def RSs (P : Program) (L : List Hp) (G : Env) (fn : Func) (v : Value) : Prop :=
  ∀ {n : Nat × List Deferred} {B : World} {X : Side} {ims : List Hp} (a : Act) (w : World), Fit n G a → St B X ims L w → (results fn a.tmps).run P w = .ok v w
theorem results_eq (fn : Func) (tmps : Array Value) : results fn tmps = (do
    let vs ← fn.results.mapM (slotRun tmps)
    pure (if h : vs.size = 1 then vs[0] else .tuple vs)) := by
  have e : (fun s : ResultVar => match s with
    | .tmp t => (pure (tmps.getD t undef) : Sem Value)
    | .cell a t => do loadVar t (← asAddr (tmps.getD a undef))) = slotRun tmps := by
    funext s; cases s <;> rfl
  rw [← e]; rfl
theorem rss1 {P : Program} {L : List Hp} {G : Env} {fn : Func} {s : ResultVar} {v : Value} (hr : fn.results = #[s]) (h : RS P L G s v) : RSs P L G fn v := fun a w hf hs => by
  have h1 := h a w hf hs
  rw [results_eq, hr]
  simp [h1]
theorem rss2 {P : Program} {L : List Hp} {G : Env} {fn : Func} {s t : ResultVar} {u v : Value} (hr : fn.results = #[s, t]) (h : RS P L G s u) (k : RS P L G t v) : RSs P L G fn (.tuple #[u, v]) := fun a w hf hs => by
  have h1 := h a w hf hs
  have h2 := k a w hf hs
  rw [results_eq, hr]
  simp [h1, h2]

/-- The mark of a loop over a function is shut. -/
theorem St.shut {B : World} {X : Side} {ims L : List Hp} {w : World} {D : Nat} (h : St B X ims L w) [i : In (dfb D) ims] (hB : B.heap.size ≤ D) : St B X [] L (w.putObj D (.deferred none)) := by
  have hA : w.heap[D]? = some (.deferred (some [])) := h.im _ i.mem D _ (sing_self _ _)
  have hD : dm B ims L D := .inr ⟨hB, dfb D, i.mem, by simp [dfb]⟩
  have hother : ∀ k, k ≠ D → (w.putObj D (.deferred none)).heap[k]? = w.heap[k]? := fun k hk => World.putObj_heap_other hk
  refine h.turn (by rw [World.putObj_size]; exact Nat.le_refl _) (fun b _ hn => hother b (fun e => hn (e ▸ hD))) ⟨rfl, rfl⟩ (fun b hb => .inl ?_) (fun b hb hx => ?_) (fun _ h => by cases h) (fun K hK => ⟨fun b o hb => ?_, (h.own K hK).2.1, fun _ h => by cases h⟩) h.nd
  · rcases hb with hb | ⟨_, _, hb, _⟩
    · exact .inl hb
    · cases hb
  · rw [hother b (by omega)]; exact h.ext b hb hx
  · have hne : b ≠ D := fun e => by
      subst e
      rcases (h.own K hK).2.2 _ i.mem b with h1 | h1
      · rw [h1] at hb; cases hb
      · simp [dfb] at h1
    rw [hother b hne]; exact (h.own K hK).1 b o hb
/-- The marks that are pushed: none, or one that is at hand. -/
inductive DfOk (B : World) (ims : List Hp) : List Deferred → Prop
  | none : DfOk B ims []
  | one {D : Nat} (hB : B.heap.size ≤ D) (hi : dfb D ∈ ims) : DfOk B ims [{ target := .collected D, args := #[] }]
theorem df1 {B : World} {ims : List Hp} {D : Nat} (hB : B.heap.size ≤ D) [i : In (dfb D) ims] : DfOk B ims [{ target := .collected D, args := #[] }] := .one hB i.mem
section rets
variable {P : Program} {n : Nat} {B : World} {ims L : List Hp} {G : Env} {fn : Func} {phi : Hp → Value → Prop} {df : List Deferred}
theorem kq_retR {v : Value} (hr : RSs P L G fn v) (H : Hp) [hg : Got H ims L] (hf : Fr B H) (hp : phi H v) (hd : DfOk B ims df) :
    KQ ⟨P, n, B, noS, false, df, none⟩ ims L G (bodyPostM (FW none) 0 P fn (Res B phi) .ret) := fun a w hF hS => by
  show LeavesInM (FW none) 0 P fn a.tmps (Res B phi) a.defers .returning w
  cases hd with
  | none =>
    rw [show a.defers = [] from hF.defers]
    exact ⟨v, hr a w hF hS, hS.toExt, H, hg.g hS, hf, hp⟩
  | one hB hi =>
    rename_i D
    rw [show a.defers = [{ target := .collected D, args := #[] }] from hF.defers]
    have i : In (dfb D) ims := ⟨hi⟩
    have hS2 := hS.shut hB
    have hA : w.heap[D]? = some (.deferred (some [])) := hS.im _ hi D _ (sing_self _ _)
    refine ⟨by simp, .inl ⟨D, _, rfl, run_takeDeferred hA, v, hr a _ hF hS2, hS2.toExt, H, fun b o hb => ?_, hf, hp⟩⟩
    have hAH := hg.g hS
    have hne : b ≠ D := fun e => by
      subst e
      obtain ⟨cs, T, e⟩ := hf.2 b o hb
      have := hAH b o hb
      rw [hA] at this; subst e; cases this
    rw [World.putObj_heap_other hne]; exact hAH b o hb
theorem spec_ofR {f : FuncId} {c : Code} {vs : List Value} (hf : P.funcs[f]? = some fn) (hb : fn.body = some c) (hn : fn.ntmps = n) (hle : Nat.ble vs.length n = true)
    (h : ∀ B, KC ⟨P, n, B, noS, false, [], none⟩ (bodyPostM (FW none) 0 P fn (Res B phi)) ims [] c (pars 0 vs)) : Spec P f vs ims phi := fun w hA => by
  refine calls_of_FW (R := none) (n := 0) (callsIn_of_wp_marks hf hb trivial ?_ rfl)
  rw [hn]
  exact h w _ w (fit_pars (Nat.le_of_ble_eq_true hle)) (St.init hA)
end rets
end
section

end
section
/-- A cell may have turned only from one integer to another. -/
def ShC (u u' : Option Value) : Prop := u' = u ∨ ∃ n n' : Int, u = some (.int .i64 n) ∧ u' = some (.int .i64 n')
theorem ShC.trans {a b c : Option Value} (h : ShC a b) (k : ShC b c) : ShC a c := by
  rcases h with rfl | ⟨n, n', rfl, rfl⟩
  · exact k
  · rcases k with rfl | ⟨m, m', h1, rfl⟩
    · exact .inr ⟨n, n', rfl, rfl⟩
    · exact .inr ⟨n, m', rfl, rfl⟩
/-- The same rows; integers may have turned. -/
def Mk (H H' : Hp) : Prop := (∀ b, H b = none → H' b = none) ∧ ∀ b cs T fz, H b = some (.cells cs T fz) → ∃ cs', H' b = some (.cells cs' T fz) ∧ cs'.size = cs.size ∧ ∀ j : Nat, ShC cs[j]? cs'[j]?
theorem Mk.refl (H : Hp) : Mk H H := ⟨fun _ h => h, fun _ cs _ _ h => ⟨cs, h, rfl, fun _ => .inl rfl⟩⟩
theorem Mk.trans {H K M : Hp} (h : Mk H K) (k : Mk K M) : Mk H M := ⟨fun b hb => k.1 b (h.1 b hb), fun b cs T fz hb => by
  obtain ⟨c1, h1, h2, h3⟩ := h.2 b cs T fz hb
  obtain ⟨c2, k1, k2, k3⟩ := k.2 b c1 T fz h1
  exact ⟨c2, k1, k2.trans h2, fun j => (h3 j).trans (k3 j)⟩⟩
theorem Mk.dom {H H' : Hp} (h : Mk H H') (b : Nat) (hb : H' b ≠ none) : H b ≠ none := fun e => hb (h.1 b e)
theorem Mk.liq {H H' : Hp} (h : Mk H H') (l : Liq H) : Liq H' := fun b o hb => by
  cases hh : H b with
  | none => rw [h.1 b hh] at hb; cases hb
  | some x =>
    obtain ⟨cs, T, rfl⟩ := l b x hh
    obtain ⟨cs', h1, _⟩ := h.2 b cs T _ hh
    rw [h1] at hb; cases hb; exact ⟨_, _, rfl⟩
theorem Mk.fr {B : World} {H H' : Hp} (h : Mk H H') (f : Fr B H) : Fr B H' := ⟨fun b hb => f.1 b (h.dom b hb), h.liq f.2⟩
def ShL (vs vs' : List Value) : Prop := vs'.length = vs.length ∧ ∀ j : Nat, ShC vs[j]? vs'[j]?
theorem Mk.at {H H' : Hp} (h : Mk H H') {p : Value} {vs : List Value} (hp : At H p vs) : ∃ vs', At H' p vs' ∧ ShL vs vs' := by
  obtain ⟨b, o, cs, T, fz, rfl, hb, hc⟩ := hp
  obtain ⟨cs', h1, h2, h3⟩ := h.2 b cs T fz hb
  have hlen : ∀ j, j < vs.length → o + j < cs'.size := fun j hj => by
    have := hc j _ (List.getElem?_eq_getElem hj)
    rw [h2]; exact (Array.getElem?_eq_some_iff.1 this).1
  refine ⟨(List.range vs.length).map (fun j => cs'.getD (o + j) undef), ⟨b, o, cs', T, fz, rfl, h1, fun j u hj => ?_⟩, by simp, fun j => ?_⟩
  · have hj' : j < vs.length := by have := (List.getElem?_eq_some_iff.1 hj).1; simpa using this
    have := (List.getElem?_eq_some_iff.1 hj).2
    simp [Array.getD, hlen j hj'] at this
    rw [Array.getElem?_eq_getElem (hlen j hj'), this]
  · by_cases hj : j < vs.length
    · have e1 : vs[j]? = cs[o + j]? := by rw [List.getElem?_eq_getElem hj, hc j _ (List.getElem?_eq_getElem hj)]
      have e2 : ((List.range vs.length).map (fun j => cs'.getD (o + j) undef))[j]? = cs'[o + j]? := by
        rw [List.getElem?_map, List.getElem?_range hj]
        simp [Array.getD, hlen j hj]
      rw [e1, e2]; exact h3 _
    · left; rw [List.getElem?_eq_none (by simpa using hj), List.getElem?_eq_none (by omega)]
theorem Mk.sl {A N : Type} {H H' : Hp} {k : Nat} {R R' : List Value → A → Prop} {v : Value} {xs : List A} (m : A → N) (h : Mk H H') (hR : ∀ vs vs' x, R vs x → ShL vs vs' → ∃ x', R' vs' x' ∧ m x' = m x) (hs : Sl H k R v xs) : ∃ xs', Sl H' k R' v xs' ∧ xs'.map m = xs.map m := by
  obtain ⟨a, c, rfl, h1, h2, h3⟩ := hs
  have each : ∀ i : Fin xs.length, ∃ x' : A, m x' = m xs[i.1] ∧ ∃ b o, a = some ⟨b, o, none⟩ ∧ ∃ vs, vs.length = k ∧ R' vs x' ∧ At H' (.pointer (some ⟨b, o + i.1 * k, none⟩)) vs := fun i => by
    obtain ⟨b, o, e, vs, l, r, t⟩ := h3 i.1 i.2
    obtain ⟨vs', t', s⟩ := h.at t
    obtain ⟨x', r', e2⟩ := hR _ _ _ r s
    exact ⟨x', e2, b, o, e, vs', s.1.trans l, r', t'⟩
  refine ⟨List.ofFn (fun i => Classical.choose (each i)), ⟨a, c, by simp, by simpa using h1, by simpa using h2, fun i hi => ?_⟩, ?_⟩
  · have := (Classical.choose_spec (each ⟨i, by simpa using hi⟩)).2
    simpa using this
  · apply List.ext_getElem
    · simp
    · intro i h4 h5
      have := (Classical.choose_spec (each ⟨i, by simpa using h5⟩)).1
      simpa using this
theorem shl_one {u : Value} {vs' : List Value} (h : ShL [u] vs') : ∃ u', vs' = [u'] ∧ (u' = u ∨ ∃ n n' : Int, u = .int .i64 n ∧ u' = .int .i64 n') := by
  obtain ⟨h1, h2⟩ := h
  match vs', h1 with
  | [u'], _ =>
    refine ⟨u', rfl, ?_⟩
    have := h2 0
    simpa [ShC] using this
theorem len_of {A N : Type} {m : A → N} {xs xs' : List A} (h : xs'.map m = xs.map m) : xs'.length = xs.length := by simpa using congrArg List.length h
theorem Mk.ints {H H' : Hp} (h : Mk H H') {v : Value} {xs : List Int} (hs : Ints H v xs) : ∃ xs', Ints H' v xs' ∧ xs'.length = xs.length := by
  obtain ⟨xs', h1, h2⟩ := h.sl (R' := IntC) (fun _ => ()) (fun vs vs' x r s => by
    unfold IntC at r; subst r
    obtain ⟨u', rfl, e | ⟨n, n', _, e⟩⟩ := shl_one s
    · exact ⟨x, by rw [e]; rfl, rfl⟩
    · exact ⟨n', by rw [e]; rfl, rfl⟩) hs
  exact ⟨xs', h1, len_of h2⟩
theorem Mk.rows {H H' : Hp} (h : Mk H H') {v : Value} {xs : List (List Int)} (hs : Rows H v xs) : ∃ xs', Rows H' v xs' ∧ xs'.map List.length = xs.map List.length :=
  h.sl List.length (fun vs vs' x r s => by
    obtain ⟨u, rfl, hu⟩ := r
    obtain ⟨u', rfl, e | ⟨n, n', e, _⟩⟩ := shl_one s
    · subst e; obtain ⟨x', h1, h2⟩ := h.ints hu; exact ⟨x', ⟨u', rfl, h1⟩, h2⟩
    · obtain ⟨a, c, e', _⟩ := hu; rw [e'] at e; cases e) hs
/-- The sizes of a constraint. -/
def conSz (c : Con) : Nat × Nat × List Nat := (c.vars.length, c.args.length, c.rows.map List.length)
theorem Mk.con {H H' : Hp} (h : Mk H H') {vs vs' : List Value} {c : Con} (hc : ConV H vs c) (s : ShL vs vs') : ∃ c', ConV H' vs' c' ∧ conSz c' = conSz c := by
  obtain ⟨a, b, r, rfl, ha, hb, hr⟩ := hc
  obtain ⟨h1, h2⟩ := s
  obtain ⟨xa, ha', la⟩ := h.ints ha
  obtain ⟨xb, hb', lb⟩ := h.ints hb
  obtain ⟨xr, hr', lr⟩ := h.rows hr
  have sl : ∀ {k : Nat} {A : Type} {R : List Value → A → Prop} {u : Value} {xs : List A} {u' : Value}, Sl H k R u xs → ShC (some u) (some u') → u' = u := fun hs hc => by
    obtain ⟨a, c, rfl, _⟩ := hs
    rcases hc with e | ⟨n, n', e, _⟩
    · simpa using e
    · simp at e
  have int : ∀ {n : Int} {u' : Value}, ShC (some (.int .i64 n)) (some u') → ∃ n', u' = .int .i64 n' := fun hc => by
    rcases hc with e | ⟨n, n', _, e⟩
    · exact ⟨_, by simpa using e⟩
    · exact ⟨n', by simpa using e⟩
  match vs', h1 with
  | [v0, v1, v2, v3, v4], _ =>
    obtain ⟨k, rfl⟩ := int (h2 0)
    have e1 := sl ha (h2 1)
    have e2 := sl hb (h2 2)
    obtain ⟨q, rfl⟩ := int (h2 3)
    have e4 := sl hr (h2 4)
    subst e1 e2 e4
    exact ⟨⟨k, xa, xb, q, xr⟩, ⟨_, _, _, rfl, ha', hb', hr'⟩, by simp only [conSz, la, lb, lr]⟩
theorem Mk.cons {H H' : Hp} (h : Mk H H') {v : Value} {xs : List Con} (hs : Cons H v xs) : ∃ xs', Cons H' v xs' ∧ xs'.map conSz = xs.map conSz :=
  h.sl conSz (fun vs vs' x r s => h.con r s) hs

/-! ### Calls -/
/-- How such a call ends: H has become H'; K: new memory. -/
def ResM (w : World) (H : Hp) (phi : Hp → Hp → Value → Prop) : Ending → World → Prop
  | .returned v, w' => Ext (fun b => H b ≠ none) w w' ∧ ∃ H' K, (∀ b, H' b ≠ none → H b ≠ none) ∧ Agree H' w' ∧ Agree K w' ∧ Fr w K ∧ phi H' K v
  | _, _ => False
def SpecM (P : Program) (f : FuncId) (args : List Value) (H : Hp) (ims : List Hp) (phi : Hp → Hp → Value → Prop) : Prop :=
  ∀ w, Agree H w → (∀ I ∈ ims, Agree I w ∧ Apart H I) → Calls P f args.toArray w (ResM w H phi)
theorem St.initM {w : World} {H : Hp} {ims : List Hp} (hH : Agree H w) (h : ∀ I ∈ ims, Agree I w ∧ Apart H I) : St w (.of (fun b => H b ≠ none)) ims [H] w :=
  ⟨Nat.le_refl _, fun _ _ _ => rfl, fun I hI => (h I hI).1, fun K hK => by
    have := List.mem_singleton.1 hK; subst this
    exact ⟨hH, fun b hb => .inr hb, fun I hI => (h I hI).2⟩, by simp, Io.refl _, trivial, Nat.zero_le _⟩
theorem specM_of {P : Program} {f : FuncId} {fn : Func} {c : Code} {vs : List Value} {n : Nat} {H : Hp} {ims : List Hp} {phi : Hp → Hp → Value → Prop}
    (hf : P.funcs[f]? = some fn) (hb : fn.body = some c) (hn : fn.ntmps = n) (hle : Nat.ble vs.length n = true)
    (h : ∀ B, KC ⟨P, n, B, .of (fun b => H b ≠ none), false, [], none⟩ (bodyPost P fn (ResM B H phi)) ims [H] c (pars 0 vs)) : SpecM P f vs H ims phi := fun w hH hA => by
  refine calls_of_wp hf hb ((wpIn_wide (n := 0)).1 ?_)
  rw [hn]
  exact h w _ w (fit_pars (Nat.le_of_ble_eq_true hle)) (St.initM hH hA)
theorem kq_retM {P : Program} {n : Nat} {B : World} {ims L : List Hp} {G : Env} {fn : Func} {H : Hp} {phi : Hp → Hp → Value → Prop} {t : Nat} {v : Value} (hr : fn.results = #[.tmp t]) (hv : look t G = some v)
    (H' K : Hp) [hg : Got H' ims L] [hk : Got K ims L] (hd : ∀ b, H' b ≠ none → H b ≠ none) (hf : Fr B K) (hp : phi H' K v) :
    KQ ⟨P, n, B, .of (fun b => H b ≠ none), false, [], none⟩ ims L G (bodyPost P fn (ResM B H phi) .ret) := fun a w hF hS => by
  refine ⟨hF.defers, v, ?_, hS.toExt, H', K, hd, hg.g hS, hk.g hS, hf, hp⟩
  rw [results_tmp hr, (hF.get t v hv).2]
/-- What an argument stands on, apart from the heaplet that may be written. -/
class GotA (K H : Hp) (ims L : List Hp) : Prop where
  g : ∀ {B : World} {X : Side} {w : World}, St B X ims L w → Agree K w ∧ Apart H K
instance (H : Hp) (ims L : List Hp) : GotA noHp H ims L := ⟨fun _ => ⟨agree_no _, fun _ => .inr rfl⟩⟩
instance (K H : Hp) (ims L : List Hp) [i : In K ims] [j : In H L] : GotA K H ims L := ⟨fun s => ⟨s.im K i.mem, (s.own H j.mem).2.2 K i.mem⟩⟩
instance (K H : Hp) (ims L L2 : List Hp) [r : RemH H L L2] [i : In K L2] : GotA K H ims L := ⟨fun s => by
  obtain ⟨_, h2, h3⟩ := r.r.facts
  exact ⟨(s.own K (h2 K i.mem)).1, fun b => ((h3 s.nd).2 K i.mem b).symm⟩⟩
instance (K M H : Hp) (ims L : List Hp) [h : GotA K H ims L] [k : GotA M H ims L] : GotA (orHp K M) H ims L := ⟨fun s => ⟨agree_or (h.g s).1 (k.g s).1, fun b => by
  rcases (h.g s).2 b with e | e
  · exact .inl e
  · rcases (k.g s).2 b with e' | e'
    · exact .inl e'
    · exact .inr (by simp [orHp, e, e'])⟩⟩
class AllGotA (l : List Hp) (H : Hp) (ims L : List Hp) : Prop where
  g : ∀ {B : World} {X : Side} {w : World}, St B X ims L w → ∀ K ∈ l, Agree K w ∧ Apart H K
instance (H : Hp) (ims L : List Hp) : AllGotA [] H ims L := ⟨fun _ _ h => by cases h⟩
instance (K H : Hp) (l ims L : List Hp) [h : GotA K H ims L] [t : AllGotA l H ims L] : AllGotA (K :: l) H ims L :=
  ⟨fun s M hM => by cases hM with | head => exact h.g s | tail _ h' => exact t.g s M h'⟩
theorem St.updPush {B : World} {X : Side} {ims L L' : List Hp} {w w' : World} {H H' K : Hp} (h : St B X ims L w) (u : UpdR H H' L L')
    (e : Ext (fun b => H b ≠ none) w w') (hA : Agree H' w') (hd : ∀ b, H' b ≠ none → H b ≠ none) (hK : Agree K w') (hf : Fresh w K) : St B X ims (K :: L') w' := by
  have h1 : St B X ims L' w' := h.upd (u := ⟨u⟩) e.size (fun b hb hn => e.same b hb (fun x => x hn)) hA (fun b hb => .inl (hd b hb)) e.io
  have key : ∀ M : Hp, (∀ b, M b ≠ none → b < w.heap.size) → Apart K M := fun M hM b => by
    by_cases hb : K b = none
    · exact .inl hb
    · right
      cases hm : M b with
      | none => rfl
      | some o => exact absurd (hf b hb) (Nat.not_le.2 (hM b (by rw [hm]; simp)))
  have lt : ∀ M : Hp, Agree M w → ∀ b, M b ≠ none → b < w.heap.size := fun M hM b hb => by
    cases hm : M b with
    | none => exact absurd hm hb
    | some o => exact hM.lt hm
  have hL : ∀ M ∈ L', Apart K M := fun M hM => by
    rcases u.mem' hM with rfl | hM
    · exact key _ (fun b hb => lt H (h.own H u.mem).1 b (hd b hb))
    · exact key M (lt M (h.own M hM).1)
  refine h.turn e.size (fun b hb hn => e.same b hb (fun hx => hn (.inl ⟨H, u.mem, hx⟩))) e.io (fun b hb => ?_) h1.ext h1.im (fun M hM => ?_) (.cons hL h1.nd)
  · rcases hb with ⟨M, hM, hb⟩ | hb
    · cases hM with
      | head => exact .inr (hf b hb)
      | tail _ hM =>
        rcases u.mem' hM with rfl | hm
        · exact .inl (.inl ⟨H, u.mem, hd b hb⟩)
        · exact .inl (.inl ⟨M, hm, hb⟩)
    · exact .inl (.inr hb)
  · cases hM with
    | head => exact ⟨hK, fun b hb => .inl (Nat.le_trans h.size (hf b hb)), fun I hI => key I (lt I (h.im I hI))⟩
    | tail _ hM => exact h1.own M hM
section calls
variable {C : Cx} {dr : Bool} {ops : Array Oper} {Q : Post} {ims L : List Hp} {G : Env} {fl : List Bool} {rest : List Oper} {d ty : Nat} {pos : String} {af : Array Edge}
theorem kl_callM {f : Operand} {xs : List Operand} {ats : Array Nat} {g : Nat} {cap : Array Value} {vs : List Value} {H : Hp} {ims' : List Hp} {phi : Hp → Hp → Value → Prop} {F : Hp → List Hp} [hb : FnC C.P g]
    (hf : ev G f = some (.func (.func g) #[] cap)) (ha : evs G xs = some vs) (hs : SpecM C.P g (vs ++ cap.toList) H ims' phi) [hF : UpdF H L F] [hi : AllGotA ims' H ims L]
    (h : ∀ v H' K, Fr C.B K → phi H' K v → (∀ b, H' b ≠ none → H b ≠ none) → KL C dr ops Q ims (K :: F H') fl.tail rest ((d, v) :: G)) (hlt : Nat.blt d C.n = true := by rfl) (hfl : fl.headD false = false := by rfl) (hdr : (!dr || rest.isEmpty) = true := by rfl) :
    KL C dr ops Q ims L fl (⟨some d, .call ⟨.value f, xs.toArray, ats⟩, ty, pos, af, none⟩ :: rest) G :=
  kl_act rfl hfl fun a w hFt hS => by
    have hrun : (execOp a.eval ⟨some d, .call ⟨.value f, xs.toArray, ats⟩, ty, pos, af, none⟩).run C.P w = .ok (.enter g (vs ++ cap.toList).toArray) w := by
      have h1 : xs.map a.eval = vs := hFt.evs ha
      simp only [execOp, resolve, hFt.ev hf, Deferred.ofValue, Sem.run_bind, Sem.run_pure, Result.andThen_ok, invoke, List.map_toArray, h1]
      rw [hb.run]
      simp
    unfold Oper.wp
    rw [hrun]
    refine (hs w (hS.own H (hF.u H).mem).1 (fun I hI => hi.g hS I hI)).mono fun e w' he => ?_
    cases e with
    | returned v =>
      obtain ⟨h1, H', K, h2, h3, h4, h5, h6⟩ := he
      refine ⟨ims, K :: F H', _, ?_, hFt.put (by simpa [Nat.blt_eq, Cx.m] using hlt), hS.updPush (hF.u H') h1 h3 h2 h4 h5.1, h v H' K ⟨fun b hb => Nat.le_trans hS.size (h5.1 b hb), h5.2⟩ h6 h2⟩
      cases dr with
      | true => left; simpa using hdr
      | false => right; intro e; cases e
    | panicked c => exact he
    | outgrown => exact he.elim
/-- A load from what is owned. -/
theorem kl_ldG {H : Hp} {p v : Value} {vs : List Value} {x : Operand} {T : Nat} [hT : OneC C.P T] [hi : Got H ims L] (hx : ev G x = some p) (hp : At H p (v :: vs))
    (h : KL C dr ops Q ims L fl.tail rest ((d, v) :: G)) (hlt : Nat.blt d C.n = true := by rfl) (hlo : C.lo = false := by rfl) : KL C dr ops Q ims L fl (⟨some d, .load T x, ty, pos, af, none⟩ :: rest) G :=
  kl_y (fun r w hr hs => by
    rw [Cx.whi hlo] at hs
    have hat := hp
    obtain ⟨b, o, cs, T', fz, rfl, _⟩ := hp
    have hc : w.cell? ⟨b, o, none⟩ = some v := cell_at (hi.g hs) hat (j := 0) (u := v) rfl
    simp [go_sem, hr _ _ hx, Instr.loadAt, loadVar, OneC.run, hc]) h hlt
end calls

/-! ### Stores of integers into what is owned -/
def wr (H : Hp) (b j : Nat) (u : Value) : Hp := fun b' => if b' = b then (match H b with | some (.cells cs T fz) => some (.cells (cs.toList.set j u).toArray T fz) | o => o) else H b'
theorem wr_self {H : Hp} {b j T : Nat} {u : Value} {cs : Array Value} {fz : Nat × Nat} (h : H b = some (.cells cs T fz)) : wr H b j u b = some (.cells (cs.toList.set j u).toArray T fz) := by simp [wr, h]
theorem wr_other {H : Hp} {b b' j : Nat} {u : Value} (h : b' ≠ b) : wr H b j u b' = H b' := by simp [wr, h]
theorem mk_wr {H : Hp} {b j T : Nat} {n n' : Int} {cs : Array Value} {fz : Nat × Nat} (h : H b = some (.cells cs T fz)) (hj : cs[j]? = some (.int .i64 n)) : Mk H (wr H b j (.int .i64 n')) := by
  refine ⟨fun b' hb => ?_, fun b' cs' T' fz' hb => ?_⟩
  · by_cases e : b' = b
    · subst e; rw [h] at hb; cases hb
    · rw [wr_other e]; exact hb
  · by_cases e : b' = b
    · subst e
      rw [h] at hb; cases hb
      refine ⟨_, wr_self h, by simp, fun i => ?_⟩
      by_cases ei : i = j
      · subst ei
        right
        have hlt := (Array.getElem?_eq_some_iff.1 hj).1
        exact ⟨n, n', hj, by simp [hlt]⟩
      · left; simp [List.getElem?_set, Ne.symm ei]
    · exact ⟨cs', by rw [wr_other e]; exact hb, rfl, fun _ => .inl rfl⟩
section clip
variable {C : Cx} {dr : Bool} {ops : Array Oper} {Q : Post} {ims L : List Hp} {G : Env} {fl : List Bool} {rest : List Oper} {d ty : Nat} {pos : String} {af : Array Edge}
/-- u is v with its capacity cut to its length. -/
def ClipV (v u : Value) (n : Nat) : Prop := ∃ a c, v = .slice a n c ∧ n ≤ c ∧ u = .slice a n n
theorem OwnL.clip {A : Type} {E k : Nat} {H K : Hp} {R : Rel A} {v u : Value} {xs : List A} (h : OwnL E k H K R v xs) (hc : ClipV v u xs.length) : OwnL E k H K R u xs := by
  obtain ⟨cs, ⟨h1, h2, h3⟩, h4⟩ := h
  obtain ⟨a, c, e, hle, rfl⟩ := hc
  refine ⟨cs, ⟨h1, h2, ?_⟩, h4⟩
  rcases h3 with ⟨a0, rfl, h0, rfl⟩ | ⟨b, c', cur, rfl, g1, g2, g3, g4, rfl⟩
  · simp only [Value.slice.injEq] at e
    obtain ⟨rfl, e1, e2⟩ := e
    exact .inl ⟨a0, by rw [h0], h0, rfl⟩
  · simp only [Value.slice.injEq] at e
    obtain ⟨rfl, e1, e2⟩ := e
    exact .inr ⟨b, xs.length, cur, rfl, Nat.le_refl _, Nat.le_trans g1 g2, Nat.le_trans (Nat.mul_le_mul_right _ g1) g3, g4, rfl⟩
theorem kl_clipV {A : Type} {H : Hp} {k n : Nat} {R : List Value → A → Prop} {v : Value} {xs : List A} {x y z0 : Operand} {T E k' by' : Nat} {z : Value} [hT : IsSlice C.P T E k' by' z]
    (hx : ev G x = some v) (hy : ev G y = some (.int .i64 (n : Int))) (hz : ev G z0 = some (.int .i64 (n : Int))) (hv : Sl H k R v xs) (hn : n = xs.length)
    (h : ∀ u, Sl H k R u xs → ClipV v u xs.length → KL C dr ops Q ims L fl.tail rest ((d, u) :: G)) (hlt : Nat.blt d C.n = true := by rfl) :
    KL C dr ops Q ims L fl (⟨some d, .slice T x none (some y) (some z0), ty, pos, af, none⟩ :: rest) G := by
  subst hn
  obtain ⟨a, c, rfl, h1, h2, h3⟩ := hv
  refine kl_y (v := .slice a xs.length xs.length) (fun r w hr _ => ?_) (h _ ⟨a, xs.length, rfl, Nat.le_refl _, h2, h3⟩ ⟨a, c, rfl, h1, rfl⟩) hlt
  simp only [execOp, Sem.run_bind, hr _ _ hx, hr _ _ hy, hr _ _ hz, Option.map_some, Option.map_none]
  by_cases hc : c = 0
  · have hi0 : xs.length = 0 := by omega
    subst hc
    simp [hi0, Instr.sliceAt, run_underlying hT.u, Instr.slice, Instr.sliceBounds, Instr.sliceBound, asIntOf, go_sem, sizeOf_run hT.size]
    try (cases a <;> simp [Addr.add, go_sem])
  · cases a with
    | none => simp [Instr.sliceAt, run_underlying hT.u, Instr.slice, Instr.sliceBounds, Instr.sliceBound, asIntOf, go_sem, sizeOf_run hT.size, h1]
    | some a => simp [Instr.sliceAt, run_underlying hT.u, Instr.slice, Instr.sliceBounds, Instr.sliceBound, asIntOf, go_sem, sizeOf_run hT.size, h1, Addr.add]
end clip
section stores
variable {C : Cx} {dr : Bool} {ops : Array Oper} {Q : Post} {ims L : List Hp} {G : Env} {fl : List Bool} {rest : List Oper} {d ty : Nat} {pos : String} {af : Array Edge}
theorem kl_stW1 {x y : Operand} {T b j E : Nat} {H : Hp} {n n' : Int} {cs : Array Value} {F : Hp → List Hp} [hT : OneC C.P T] [hF : UpdF H L F]
    (hx : ev G x = some (.pointer (some ⟨b, j, none⟩))) (hy : ev G y = some (.int .i64 n')) (hb : H b = some (.cells cs E (0, 0))) (hj : cs[j]? = some (.int .i64 n))
    (h : KL C dr ops Q ims (F (wr H b j (.int .i64 n'))) fl.tail rest G) (hfl : fl.headD false = false) (hdr : (!dr || rest.isEmpty) = true) :
    KL C dr ops Q ims L fl (⟨none, .store T x y, ty, pos, af, none⟩ :: rest) G :=
  kl_act rfl hfl fun a w hf hs' => by
    have hown := hs'.own H (hF.u H).mem
    have hlt := (Array.getElem?_eq_some_iff.1 hj).1
    have hbw := hown.1 b _ hb
    have hcs : cs = cs.toList.toArray := by simp
    rw [hcs] at hbw
    have hset : (cs.toList.take j ++ [Value.int .i64 n'] ++ cs.toList.drop (j + [Value.int .i64 n'].length)) = cs.toList.set j (.int .i64 n') := by
      rw [List.set_eq_take_append_cons_drop, if_pos (by simpa using hlt)]
      simp
    have hrun : (execOp a.eval ⟨none, .store T x y, ty, pos, af, none⟩).run C.P w = .ok .skip (w.setRow b (cs.toList.set j (.int .i64 n')).toArray) := by
      have := store_run (P := C.P) (T := T) (j := j) (u := .int .i64 n') (us := [.int .i64 n']) rfl (by simpa using hT.i) (fun x hx => by rw [List.mem_singleton.1 hx]; rfl) hbw (by simp; omega)
      rw [hset] at this
      simp only [execOp, Sem.run_bind, hf.ev hx, hf.ev hy, this, Result.andThen_ok, Sem.run_pure]
    unfold Oper.wp
    rw [hrun]
    refine ⟨ims, F (wr H b j (.int .i64 n')), G, ?_, hf.putNone, ?_, h⟩
    · cases dr with
      | true => left; simpa using hdr
      | false => right; intro e; cases e
    · refine hs'.upd (u := ⟨hF.u _⟩) (by simp) (fun b' _ hn => ?_) (fun b' o' hb' => ?_) (fun b' hb' => .inl ?_) ⟨rfl, rfl⟩
      · have hne : b' ≠ b := fun e => by subst e; rw [hb] at hn; cases hn
        exact setRow_other w b b' _ hne
      · by_cases e : b' = b
        · subst e
          rw [wr_self hb] at hb'; cases hb'
          exact setRow_get w _ cs.toList E _ hbw
        · rw [wr_other e] at hb'
          rw [setRow_other w b b' _ e]; exact hown.1 b' o' hb'
      · by_cases e : b' = b
        · subst e; rw [hb]; simp
        · rw [wr_other e] at hb'; exact hb'
/-- A store of an integer where an integer was. -/
theorem kl_stA {x y : Operand} {T : Nat} {H : Hp} {p : Value} {n n' : Int} {vs : List Value} {F : Hp → List Hp} [hT : OneC C.P T] [hF : UpdF H L F] (hx : ev G x = some p) (hy : ev G y = some (.int .i64 n')) (hp : At H p (.int .i64 n :: vs)) (hl : Liq H)
    (h : ∀ H', Mk H H' → At H' p (.int .i64 n' :: vs) → KL C dr ops Q ims (F H') fl.tail rest G) (hfl : fl.headD false = false := by rfl) (hdr : (!dr || rest.isEmpty) = true := by rfl) :
    KL C dr ops Q ims L fl (⟨none, .store T x y, ty, pos, af, none⟩ :: rest) G := by
  obtain ⟨b, o, cs, T', fz, rfl, hb, hc⟩ := hp
  obtain ⟨cs0, T0, e⟩ := hl b _ hb
  cases e
  have hj : cs[o]? = some (.int .i64 n) := hc 0 _ rfl
  refine kl_stW1 hx hy hb hj (h _ (mk_wr hb hj) ⟨b, o, _, _, _, rfl, wr_self hb, fun j u hu => ?_⟩) hfl hdr
  have hlt := (Array.getElem?_eq_some_iff.1 hj).1
  cases j with
  | zero => simp at hu; subst hu; simp [hlt]
  | succ j =>
    have := hc (j + 1) u (by simpa using hu)
    simp [List.getElem?_set, ← this]
def PtrS (v p : Value) (i : Nat) : Prop := ∃ b o n c, v = .slice (some ⟨b, o, none⟩) n c ∧ p = .pointer (some ⟨b, o + i, none⟩)
theorem Ints.wr {H : Hp} {v : Value} {xs : List Int} {b o i c T : Nat} {n' : Int} {cs : Array Value} {fz : Nat × Nat} (hv : Ints H v xs) (ev : v = .slice (some ⟨b, o, none⟩) xs.length c) (hb : H b = some (.cells cs T fz)) :
    Ints (wr H b (o + i) (.int .i64 n')) v (xs.set i n') := by
  obtain ⟨a, c', e, h1, h2, h3⟩ := hv
  rw [ev] at e
  simp only [Value.slice.injEq, true_and] at e
  obtain ⟨rfl, rfl⟩ := e
  subst ev
  refine ⟨_, c, by simp, by simpa using h1, by simpa using h2, fun k hk => ⟨b, o, rfl, ?_⟩⟩
  have hk' : k < xs.length := by simpa using hk
  obtain ⟨b', o', e, vs, hl, hr, hat⟩ := h3 k hk'
  simp only [Option.some.injEq, Addr.mk.injEq, and_true] at e
  obtain ⟨rfl, rfl⟩ := e
  unfold IntC at hr
  subst hr
  obtain ⟨b', o', cs', T', fz', e, hb', hc'⟩ := hat
  simp only [Value.pointer.injEq, Option.some.injEq, Addr.mk.injEq, and_true] at e
  obtain ⟨rfl, rfl⟩ := e
  rw [hb] at hb'; cases hb'
  have hck := hc' 0 _ rfl
  have hlt := (Array.getElem?_eq_some_iff.1 hck).1
  simp only [Nat.mul_one, Nat.add_zero] at hck hlt
  refine ⟨[.int .i64 ((xs.set i n')[k])], rfl, rfl, b, o + k * 1, _, _, _, rfl, wr_self hb, fun j u hu => ?_⟩
  cases j with
  | succ j => simp at hu
  | zero =>
    simp only [List.getElem?_cons_zero, Option.some.injEq] at hu
    subst hu
    simp only [Nat.mul_one, Nat.add_zero, List.getElem?_toArray, List.getElem?_set, List.getElem_set]
    by_cases e : i = k
    · subst e; simp [hlt]
    · have : o + i ≠ o + k := by omega
      simp only [this, e, if_false]
      simpa using hck
/-- The place of element i. -/
theorem kl_inP {H : Hp} {v : Value} {xs : List Int} {x y : Operand} {i T E by' : Nat} {z : Value} [hT : IsSlice C.P T E 1 by' z] (hx : ev G x = some v) (hy : ev G y = some (.int .i64 (i : Int))) (hv : Ints H v xs) (h1 : i < xs.length)
    (h : ∀ p, PtrS v p i → At H p [.int .i64 (xs.getD i 0)] → KL C dr ops Q ims L fl.tail rest ((d, p) :: G)) (hlt : Nat.blt d C.n = true := by rfl) :
    KL C dr ops Q ims L fl (⟨some d, .indexAddr T x y, ty, pos, af, none⟩ :: rest) G := by
  obtain ⟨a, c, rfl, h2, h3, h4⟩ := id hv
  obtain ⟨b, o, rfl, vs, hl, hr, hat⟩ := h4 i h1
  unfold IntC at hr
  subst hr
  have e : xs.getD i 0 = xs[i] := by rw [List.getD_eq_getElem?_getD, List.getElem?_eq_getElem h1]; rfl
  refine kl_y (v := .pointer (some ⟨b, o + i, none⟩)) (fun r w hr _ => ?_) (h _ ⟨b, o, _, _, rfl, rfl⟩ (by rw [e]; simpa using hat)) hlt
  have hi' : ¬ xs.length ≤ i := by omega
  simp [go_sem, hr _ _ hx, hr _ _ hy, Instr.indexAt, run_underlying hT.u, sizeOf_run hT.size, Addr.add_lit, hi']
/-- A store into element i. -/
theorem kl_stS {x y : Operand} {T i : Nat} {H : Hp} {v p : Value} {n' : Int} {xs : List Int} {F : Hp → List Hp} [hT : OneC C.P T] [hF : UpdF H L F] (hx : ev G x = some p) (hy : ev G y = some (.int .i64 n')) (hp : PtrS v p i) (hv : Ints H v xs) (hi : i < xs.length) (hl : Liq H)
    (h : ∀ H', Mk H H' → Ints H' v (xs.set i n') → KL C dr ops Q ims (F H') fl.tail rest G) (hfl : fl.headD false = false := by rfl) (hdr : (!dr || rest.isEmpty) = true := by rfl) :
    KL C dr ops Q ims L fl (⟨none, .store T x y, ty, pos, af, none⟩ :: rest) G := by
  obtain ⟨b, o, n, c, rfl, rfl⟩ := hp
  have hv' := hv
  obtain ⟨a, c', e, h2, h3, h4⟩ := hv
  simp only [Value.slice.injEq] at e
  obtain ⟨rfl, rfl, rfl⟩ := e
  obtain ⟨b', o', e, vs, hl', hr, hat⟩ := h4 i hi
  simp only [Option.some.injEq, Addr.mk.injEq, and_true] at e
  obtain ⟨rfl, rfl⟩ := e
  unfold IntC at hr
  subst hr
  obtain ⟨b', o', cs, T', fz, e, hb, hc⟩ := hat
  simp only [Value.pointer.injEq, Option.some.injEq, Addr.mk.injEq, and_true] at e
  obtain ⟨rfl, rfl⟩ := e
  obtain ⟨cs0, T0, e⟩ := hl b _ hb
  cases e
  have hj : cs[o + i]? = some (.int .i64 xs[i]) := by simpa using hc 0 _ rfl
  exact kl_stW1 hx hy hb hj (h _ (mk_wr hb hj) (hv'.wr rfl hb)) hfl hdr
end stores
end
section
/-- How such a call ends: L0 has become L1; Ln: new memory, to be written; K: new memory that is written no more. -/
def ResT (w : World) (L0 : List Hp) (phi : Value → List Hp → List Hp → Hp → Prop) : Ending → World → Prop
  | .returned v, w' => Ext (fun b => ∃ H ∈ L0, H b ≠ none) w w' ∧ ∃ L1 Ln K, (∀ H ∈ L1, Agree H w' ∧ ∀ b, H b ≠ none → w.heap.size ≤ b ∨ ∃ K ∈ L0, K b ≠ none) ∧ (∀ H ∈ Ln, Agree H w' ∧ Fr w H) ∧ (L1 ++ Ln).Pairwise Apart ∧ (Agree K w' ∧ Fr w K ∧ ∀ H ∈ L1 ++ Ln, Apart H K) ∧ phi v L1 Ln K
  | _, _ => False
def SpecT (P : Program) (f : FuncId) (args : List Value) (L0 ims : List Hp) (phi : Value → List Hp → List Hp → Hp → Prop) : Prop :=
  ∀ w, (∀ H ∈ L0, Agree H w) → L0.Pairwise Apart → (∀ I ∈ ims, Agree I w ∧ ∀ H ∈ L0, Apart H I) → Calls P f args.toArray w (ResT w L0 phi)
theorem SpecT.mono {P : Program} {f : FuncId} {args : List Value} {L0 ims : List Hp} {p q : Value → List Hp → List Hp → Hp → Prop} (h : SpecT P f args L0 ims p) (hq : ∀ v L1 Ln K, p v L1 Ln K → q v L1 Ln K) : SpecT P f args L0 ims q :=
  fun w h1 h2 h3 => (h w h1 h2 h3).mono fun e w' he => by
    cases e with
    | returned v => obtain ⟨h1, L1, Ln, K, h2, h3, h4, h5, h6⟩ := he; exact ⟨h1, L1, Ln, K, h2, h3, h4, h5, hq _ _ _ _ h6⟩
    | panicked c => exact he
    | outgrown => exact he
theorem St.initT {w : World} {L0 ims : List Hp} (hH : ∀ H ∈ L0, Agree H w) (hp : L0.Pairwise Apart) (h : ∀ I ∈ ims, Agree I w ∧ ∀ H ∈ L0, Apart H I) : St w (.of (fun b => ∃ H ∈ L0, H b ≠ none)) ims L0 w :=
  ⟨Nat.le_refl _, fun _ _ _ => rfl, fun I hI => (h I hI).1, fun K hK => ⟨hH K hK, fun b hb => .inr ⟨K, hK, hb⟩, fun I hI => (h I hI).2 K hK⟩, hp, Io.refl _, trivial, Nat.zero_le _⟩
theorem specT_of {P : Program} {f : FuncId} {fn : Func} {c : Code} {vs : List Value} {n : Nat} {L0 ims : List Hp} {phi : Value → List Hp → List Hp → Hp → Prop}
    (hf : P.funcs[f]? = some fn) (hb : fn.body = some c) (hn : fn.ntmps = n) (hle : Nat.ble vs.length n = true)
    (h : ∀ B, KC ⟨P, n, B, .of (fun b => ∃ H ∈ L0, H b ≠ none), false, [], none⟩ (bodyPost P fn (ResT B L0 phi)) ims L0 c (pars 0 vs)) : SpecT P f vs L0 ims phi := fun w hH hp hA => by
  refine calls_of_wp hf hb ((wpIn_wide (n := 0)).1 ?_)
  rw [hn]
  exact h w _ w (fit_pars (Nat.le_of_ble_eq_true hle)) (St.initT hH hp hA)
/-- L without the heaplets of l, in any order. -/
class TakeL (l L : List Hp) (L' : outParam (List Hp)) : Prop where
  t : List.Perm L (l ++ L')
instance (L : List Hp) : TakeL [] L L := ⟨List.Perm.refl _⟩
theorem RemR.perm {H : Hp} {L L' : List Hp} (r : RemR H L L') : List.Perm L (H :: L') := by
  induction r with
  | head L => exact List.Perm.refl _
  | tail K h ih => exact (List.Perm.cons K ih).trans (List.Perm.swap _ _ _)
instance (H : Hp) (l L L1 L2 : List Hp) [r : RemH H L L1] [t : TakeL l L1 L2] : TakeL (H :: l) L L2 := ⟨r.r.perm.trans (List.Perm.cons H t.t)⟩
theorem Apart.symm {H K : Hp} (h : Apart H K) : Apart K H := fun b => (h b).symm
theorem pw_perm {L L' : List Hp} (p : List.Perm L L') (h : L.Pairwise Apart) : L'.Pairwise Apart := p.pairwise h (fun h => h.symm)
theorem St.perm {B : World} {X : Side} {ims L L' : List Hp} {w : World} (h : St B X ims L w) (p : List.Perm L L') : St B X ims L' w :=
  h.still (fun b hb => by
      rcases hb with ⟨H, hH, hb⟩ | hb
      · exact .inl ⟨H, p.mem_iff.2 hH, hb⟩
      · exact .inr hb) h.im (fun H hH => h.own H (p.mem_iff.2 hH)) (pw_perm p h.nd)
section rets
variable {P : Program} {n : Nat} {B : World} {ims L : List Hp} {G : Env} {fn : Func} {L0 : List Hp} {phi : Value → List Hp → List Hp → Hp → Prop}
/-- What a function returns that has its results in temporaries. -/
theorem kq_retT' {v : Value} (hr : ∀ a : Act, Fit (n, []) G a → ∀ w, St B (.of (fun b => ∃ H ∈ L0, H b ≠ none)) ims L w → (results fn a.tmps).run P w = .ok v w) (L1 Ln : List Hp) (K : Hp) {La L' : List Hp} [t1 : TakeL L1 L La] [t2 : TakeL Ln La L'] [gk : GotI K ims] (hf : ∀ H ∈ Ln, Fr B H) (hk : Fr B K) (hp : phi v L1 Ln K) :
    KQ ⟨P, n, B, .of (fun b => ∃ H ∈ L0, H b ≠ none), false, [], none⟩ ims L G (bodyPost P fn (ResT B L0 phi) .ret) := fun a w hF hS => by
  have h2 : St B _ ims ((L1 ++ Ln) ++ L') w := hS.perm (t1.t.trans (by rw [List.append_assoc]; exact List.Perm.append_left L1 t2.t))
  have hsub : ∀ H, H ∈ L1 ++ Ln → H ∈ (L1 ++ Ln) ++ L' := fun H h => List.mem_append_left _ h
  refine ⟨hF.defers, v, hr a hF w hS, ⟨hS.size, hS.ext, hS.io⟩, L1, Ln, K, fun H hH => ?_, fun H hH => ?_, ?_, ⟨(gk.g hS).1, hk, fun H hH => (gk.g h2).2 H (hsub H hH)⟩, hp⟩
  · have := h2.own H (hsub H (List.mem_append_left _ hH))
    exact ⟨this.1, this.2.1⟩
  · exact ⟨(h2.own H (hsub H (List.mem_append_right _ hH))).1, hf H hH⟩
  · exact (List.pairwise_append.1 h2.nd).1
theorem kq_retT {t : Nat} {v : Value} (hr : fn.results = #[.tmp t]) (hv : look t G = some v) (L1 Ln : List Hp) (K : Hp) {La L' : List Hp} [k1 : TakeL L1 L La] [k2 : TakeL Ln La L'] [gk : GotI K ims] (hf : ∀ H ∈ Ln, Fr B H) (hk : Fr B K) (hp : phi v L1 Ln K) :
    KQ ⟨P, n, B, .of (fun b => ∃ H ∈ L0, H b ≠ none), false, [], none⟩ ims L G (bodyPost P fn (ResT B L0 phi) .ret) :=
  kq_retT' (fun a hF w _ => by rw [results_tmp hr, (hF.get t v hv).2]) L1 Ln K hf hk hp
theorem kq_retT0 (hr : fn.results = #[]) (L1 Ln : List Hp) (K : Hp) {La L' : List Hp} [k1 : TakeL L1 L La] [k2 : TakeL Ln La L'] [gk : GotI K ims] (hf : ∀ H ∈ Ln, Fr B H) (hk : Fr B K) (hp : phi (.tuple #[]) L1 Ln K) :
    KQ ⟨P, n, B, .of (fun b => ∃ H ∈ L0, H b ≠ none), false, [], none⟩ ims L G (bodyPost P fn (ResT B L0 phi) .ret) :=
  kq_retT' (fun a hF w _ => by simp [results, hr]) L1 Ln K hf hk hp
/-- A struct that lies in a cell. -/
theorem rC {a T b E k : Nat} {cs : List Value} {F : List Value → List Hp} [hT : AggC P T k] [hF : BoxF b cs E L F] (hr : fn.results = #[.cell a T]) (hv : look a G = some (.pointer (some ⟨b, 0, none⟩))) (hkb : Nat.beq cs.length k = true)
    (L1 Ln : List Hp) (K : Hp) {La L' : List Hp} [t1 : TakeL L1 L La] [t2 : TakeL Ln La L'] [gk : GotI K ims] (hf : ∀ H ∈ Ln, Fr B H) (hk : Fr B K) (hp : phi (.agg cs.toArray) L1 Ln K) :
    KQ ⟨P, n, B, .of (fun b => ∃ H ∈ L0, H b ≠ none), false, [], none⟩ ims L G (bodyPost P fn (ResT B L0 phi) .ret) :=
  kq_retT' (fun a' hFt w hS => by
    have hA := (hS.own _ (hF.u cs).mem).1
    have hat : At (sing b (.cells cs.toArray E (0, 0))) (.pointer (some ⟨b, 0, none⟩)) cs := At.sing (cs := cs.toArray)
    have hc := loadCells_at (P := P) hA hat
    rw [Nat.eq_of_beq_eq_true hkb] at hc
    have h1 : (loadVar T ⟨b, 0, none⟩).run P w = .ok (.agg cs.toArray) w := by
      simp only [loadVar, Sem.run_bind, Sem.run_pure, Result.andThen_ok, AggC.run, sizeOf_run hT.i, hc, if_true]
    have h2 : a'.tmps.getD a undef = .pointer (some ⟨b, 0, none⟩) := (hFt.get a _ hv).2
    simp [results, hr, asAddr]
    simp at h2
    simp [h2, h1]) L1 Ln K hf hk hp
end rets
theorem fr1 {B : World} {H : Hp} (h : Fr B H) : ∀ K ∈ [H], Fr B K := fun K hK => by rw [List.mem_singleton.1 hK]; exact h
theorem frn {B : World} : ∀ K ∈ ([] : List Hp), Fr B K := fun K hK => by cases hK
theorem frc {B : World} {H : Hp} {l : List Hp} (h : Fr B H) (t : ∀ K ∈ l, Fr B K) : ∀ K ∈ H :: l, Fr B K := fun K hK => by
  cases hK with
  | head => exact h
  | tail _ hK => exact t K hK
/-- What an argument stands on, apart from what is handed over. -/
class GotT (l : List Hp) (K : Hp) (ims L' : List Hp) : Prop where
  g : ∀ {B : World} {X : Side} {w : World}, St B X ims (l ++ L') w → Agree K w ∧ ∀ H ∈ l, Apart H K
instance (l ims L' : List Hp) : GotT l noHp ims L' := ⟨fun _ => ⟨agree_no _, fun _ _ _ => .inr rfl⟩⟩
instance (l : List Hp) (K : Hp) (ims L' : List Hp) [i : In K ims] : GotT l K ims L' := ⟨fun s => ⟨s.im K i.mem, fun H hH => (s.own H (List.mem_append_left _ hH)).2.2 K i.mem⟩⟩
instance (l : List Hp) (K : Hp) (ims L' : List Hp) [i : In K L'] : GotT l K ims L' := ⟨fun s => ⟨(s.own K (List.mem_append_right _ i.mem)).1, fun H hH => (List.pairwise_append.1 s.nd).2.2 H hH K i.mem⟩⟩
instance (l : List Hp) (K M : Hp) (ims L' : List Hp) [h : GotT l K ims L'] [k : GotT l M ims L'] : GotT l (orHp K M) ims L' := ⟨fun s => ⟨agree_or (h.g s).1 (k.g s).1, fun H hH b => by
  rcases (h.g s).2 H hH b with e | e
  · exact .inl e
  · rcases (k.g s).2 H hH b with e' | e'
    · exact .inl e'
    · exact .inr (by simp [orHp, e, e'])⟩⟩
class AllGotT (l : List Hp) (m : List Hp) (ims L' : List Hp) : Prop where
  g : ∀ {B : World} {X : Side} {w : World}, St B X ims (l ++ L') w → ∀ K ∈ m, Agree K w ∧ ∀ H ∈ l, Apart H K
instance (l ims L' : List Hp) : AllGotT l [] ims L' := ⟨fun _ _ h => by cases h⟩
instance (l : List Hp) (K : Hp) (m ims L' : List Hp) [h : GotT l K ims L'] [t : AllGotT l m ims L'] : AllGotT l (K :: m) ims L' :=
  ⟨fun s M hM => by cases hM with | head => exact h.g s | tail _ h' => exact t.g s M h'⟩
/-- Behind such a call. -/
theorem St.took {B : World} {X : Side} {ims L0 L' L1 Ln : List Hp} {w w' : World} (h : St B X ims (L0 ++ L') w) (e : Ext (fun b => ∃ H ∈ L0, H b ≠ none) w w')
    (h1 : ∀ H ∈ L1, Agree H w' ∧ ∀ b, H b ≠ none → w.heap.size ≤ b ∨ ∃ K ∈ L0, K b ≠ none) (hn : ∀ H ∈ Ln, Agree H w' ∧ Fr w H) (hp : (L1 ++ Ln).Pairwise Apart) {K : Hp} (hk : Agree K w' ∧ Fr w K ∧ ∀ H ∈ L1 ++ Ln, Apart H K) : St B X (K :: ims) (L1 ++ Ln ++ L') w' := by
  have dom : ∀ H ∈ L1 ++ Ln, Agree H w' ∧ ∀ b, H b ≠ none → w.heap.size ≤ b ∨ ∃ K ∈ L0, K b ≠ none := fun H hH => by
    rcases List.mem_append.1 hH with hH | hH
    · exact h1 H hH
    · exact ⟨(hn H hH).1, fun b hb => .inl ((hn H hH).2.1 b hb)⟩
  have other : ∀ K : Hp, Agree K w → (∀ H ∈ L0, Apart H K) → Agree K w' ∧ ∀ H ∈ L1 ++ Ln, Apart H K := fun K hK hap => by
    refine ⟨fun b o hb => ?_, fun H hH b => ?_⟩
    · rw [e.same b (hK.lt hb) (fun ⟨H, hH, hx⟩ => by
        rcases hap H hH b with h2 | h2
        · exact hx h2
        · rw [h2] at hb; cases hb)]
      exact hK b o hb
    · by_cases hb : H b = none
      · exact .inl hb
      · right
        cases hk : K b with
        | none => rfl
        | some o =>
          rcases (dom H hH).2 b hb with h2 | ⟨M, hM, hx⟩
          · exact absurd (hK.lt hk) (Nat.not_lt.2 h2)
          · rcases hap M hM b with h3 | h3
            · exact absurd h3 hx
            · rw [h3] at hk; cases hk
  have ho : ∀ K ∈ L', Agree K w' ∧ ∀ H ∈ L1 ++ Ln, Apart H K := fun K hK =>
    other K (h.own K (List.mem_append_right _ hK)).1 (fun H hH => (List.pairwise_append.1 h.nd).2.2 H hH K hK)
  have hi : ∀ I ∈ ims, Agree I w' ∧ ∀ H ∈ L1 ++ Ln, Apart H I := fun I hI =>
    other I (h.im I hI) (fun H hH => (h.own H (List.mem_append_left _ hH)).2.2 I hI)
  have freshK : ∀ M : Hp, Agree M w → Apart M K := fun M hM b => by
    by_cases hb : K b = none
    · exact .inr hb
    · left
      cases hm : M b with
      | none => rfl
      | some o => exact absurd (hM.lt hm) (Nat.not_lt.2 (hk.2.1.1 b hb))
  refine h.turn e.size (fun b hb hd => e.same b hb (fun ⟨H, hH, hx⟩ => hd (.inl ⟨H, List.mem_append_left _ hH, hx⟩))) e.io (fun b hb => ?_) (fun b hb hx => ?_) (fun I hI => ?_) (fun K hK => ?_) ?_
  · rcases hb with ⟨H, hH, hb⟩ | hb
    · rcases List.mem_append.1 hH with hH | hH
      · rcases (dom H hH).2 b hb with h2 | ⟨K, hK, hx⟩
        · exact .inr h2
        · exact .inl (.inl ⟨K, List.mem_append_left _ hK, hx⟩)
      · exact .inl (.inl ⟨H, List.mem_append_right _ hH, hb⟩)
    · obtain ⟨hB, M, hM, hb⟩ := hb
      cases hM with
      | head => exact .inr (hk.2.1.1 b hb)
      | tail _ hM => exact .inl (.inr ⟨hB, M, hM, hb⟩)
  · have hn : ¬ ∃ H ∈ L0, H b ≠ none := fun ⟨H, hH, hxx⟩ => by
      rcases (h.own H (List.mem_append_left _ hH)).2.1 b hxx with h2 | h2
      · omega
      · exact hx h2
    rw [e.same b (Nat.lt_of_lt_of_le hb h.size) hn]; exact h.ext b hb hx
  · cases hI with
    | head => exact hk.1
    | tail _ hI => exact (hi I hI).1
  · rcases List.mem_append.1 hK with hK | hK
    · refine ⟨(dom K hK).1, fun b hb => ?_, fun I hI => by
        cases hI with
        | head => exact hk.2.2 K hK
        | tail _ hI => exact (hi I hI).2 K hK⟩
      rcases (dom K hK).2 b hb with h2 | ⟨M, hM, hx⟩
      · exact .inl (Nat.le_trans h.size h2)
      · exact (h.own M (List.mem_append_left _ hM)).2.1 b hx
    · exact ⟨(ho K hK).1, (h.own K (List.mem_append_right _ hK)).2.1, fun I hI => by
        cases hI with
        | head => exact freshK K (h.own K (List.mem_append_right _ hK)).1
        | tail _ hI => exact (h.own K (List.mem_append_right _ hK)).2.2 I hI⟩
  · exact List.pairwise_append.2 ⟨hp, (List.pairwise_append.1 h.nd).2.1, fun H hH K hK => (ho K hK).2 H hH⟩
section calls
variable {C : Cx} {dr : Bool} {ops : Array Oper} {Q : Post} {ims L : List Hp} {G : Env} {fl : List Bool} {rest : List Oper} {d ty : Nat} {pos : String} {af : Array Edge}
theorem kl_callT' {od : Option Nat} {f : Operand} {xs : List Operand} {ats : Array Nat} {g : Nat} {cap : Array Value} {vs : List Value} {L0 ims' L' : List Hp} {phi : Value → List Hp → List Hp → Hp → Prop} {Gv : Value → Env} [hb : FnC C.P g]
    (hf : ev G f = some (.func (.func g) #[] cap)) (ha : evs G xs = some vs) (hs : SpecT C.P g (vs ++ cap.toList) L0 ims' phi) [hF : TakeL L0 L L'] [hi : AllGotT L0 ims' ims L']
    (hput : ∀ a v, Fit C.m G a → Fit C.m (Gv v) (a.put od v))
    (h : ∀ v L1 Ln K, phi v L1 Ln K → (∀ H ∈ Ln, Fr C.B H) → Fr C.B K → KL C dr ops Q (K :: ims) (L1 ++ Ln ++ L') fl.tail rest (Gv v)) (hfl : fl.headD false = false) (hdr : (!dr || rest.isEmpty) = true) :
    KL C dr ops Q ims L fl (⟨od, .call ⟨.value f, xs.toArray, ats⟩, ty, pos, af, none⟩ :: rest) G :=
  kl_act rfl hfl fun a w hFt hS0 => by
    have hrun : (execOp a.eval ⟨od, .call ⟨.value f, xs.toArray, ats⟩, ty, pos, af, none⟩).run C.P w = .ok (.enter g (vs ++ cap.toList).toArray) w := by
      have h1 : xs.map a.eval = vs := hFt.evs ha
      simp only [execOp, resolve, hFt.ev hf, Deferred.ofValue, Sem.run_bind, Sem.run_pure, Result.andThen_ok, invoke, List.map_toArray, h1]
      rw [hb.run]
      simp
    unfold Oper.wp
    rw [hrun]
    have hS := hS0.perm hF.t
    refine (hs w (fun H hH => (hS.own H (List.mem_append_left _ hH)).1) (List.pairwise_append.1 hS.nd).1 (fun I hI => hi.g hS I hI)).mono fun e w' he => ?_
    cases e with
    | returned v =>
      obtain ⟨h1, L1, Ln, K, h2, h3, h4, h5, h6⟩ := he
      refine ⟨K :: ims, L1 ++ Ln ++ L', _, ?_, hput a v hFt, hS.took h1 h2 h3 h4 h5, h v L1 Ln K h6 (fun H hH => ⟨fun b hb => Nat.le_trans hS.size ((h3 H hH).2.1 b hb), (h3 H hH).2.2⟩) ⟨fun b hb => Nat.le_trans hS.size (h5.2.1.1 b hb), h5.2.1.2⟩⟩
      cases dr with
      | true => left; simpa using hdr
      | false => right; intro e; cases e
    | panicked c => exact he
    | outgrown => exact he.elim
theorem cT {f : Operand} {xs : List Operand} {ats : Array Nat} {g : Nat} {cap : Array Value} {vs : List Value} {L0 ims' L' : List Hp} {phi : Value → List Hp → List Hp → Hp → Prop} [hb : FnC C.P g]
    (hf : ev G f = some (.func (.func g) #[] cap)) (ha : evs G xs = some vs) (hs : SpecT C.P g (vs ++ cap.toList) L0 ims' phi) [hF : TakeL L0 L L'] [hi : AllGotT L0 ims' ims L']
    (h : ∀ v L1 Ln K, phi v L1 Ln K → (∀ H ∈ Ln, Fr C.B H) → Fr C.B K → KL C dr ops Q (K :: ims) (L1 ++ Ln ++ L') fl.tail rest ((d, v) :: G)) (hlt : Nat.blt d C.n = true := by rfl) (hfl : fl.headD false = false := by rfl) (hdr : (!dr || rest.isEmpty) = true := by rfl) :
    KL C dr ops Q ims L fl (⟨some d, .call ⟨.value f, xs.toArray, ats⟩, ty, pos, af, none⟩ :: rest) G :=
  kl_callT' hf ha hs (fun a v hFt => hFt.put (by simpa [Nat.blt_eq, Cx.m] using hlt)) h hfl hdr
/-- What is owned is written no more. -/
theorem fZ (H : Hp) {L' : List Hp} [r : RemH H L L'] (h : KL C false ops Q (H :: ims) L' fl rest G) (hlo : C.lo = false := by rfl) : KL C false ops Q ims L fl rest G := fun a w hf hs => by
  have h1 := h a w hf hs.rem
  refine wpSeq_false ?_ _ _ _ _ h1
  intro u hu
  rw [Cx.whi hlo] at hu ⊢; exact hu.rem
/-- The list of what is owned, written plainly. -/
class NormL (l : List Hp) (r : outParam (List Hp)) : Prop where e : l = r
instance (m r : List Hp) [h : NormL m r] : NormL ([] ++ m) r := ⟨h.e⟩
instance (a : Hp) (l m r : List Hp) [h : NormL (l ++ m) r] : NormL ((a :: l) ++ m) (a :: r) := ⟨by rw [List.cons_append, h.e]⟩
instance (l m n r : List Hp) [h : NormL (l ++ (m ++ n)) r] : NormL ((l ++ m) ++ n) r := ⟨by rw [List.append_assoc, h.e]⟩
instance (priority := low) (l : List Hp) : NormL l l := ⟨rfl⟩
theorem nm {Lr : List Hp} [hn : NormL L Lr] (h : KL C dr ops Q ims Lr fl rest G) : KL C dr ops Q ims L fl rest G := by have e := hn.e; subst e; exact h
end calls
theorem cg {C : Cx} {dr : Bool} {ops : Array Oper} {Q : Post} {ims L : List Hp} {G : Env} {fl : List Bool} {rest : List Oper} (L2 : List Hp) (e : L = L2) (h : KL C dr ops Q ims L2 fl rest G) : KL C dr ops Q ims L fl rest G := e ▸ h
theorem tk {C : Cx} {ims L : List Hp} {G : Env} {p : Act → World → Prop} (L2 : List Hp) {L' : List Hp} [t : TakeL L2 L L'] (h : KQ C ims L2 G p) : KQ C ims L G p := fun a w hf hs => h a w hf ((hs.perm t.t).weak (i := allIn_refl _) (List.sublist_append_left _ _))
theorem kc_take {C : Cx} {Q : Post} {ims L : List Hp} {G : Env} {c : Code} (L2 : List Hp) {L' : List Hp} [t : TakeL L2 L L'] (h : KC C Q ims L2 c G) : KC C Q ims L c G := fun a w hf hs => h a w hf ((hs.perm t.t).weak (i := allIn_refl _) (List.sublist_append_left _ _))
theorem kq_frz {C : Cx} {ims L : List Hp} {G : Env} {p : Act → World → Prop} (H : Hp) {L' : List Hp} [r : RemH H L L'] (h : KQ C (H :: ims) L' G p) : KQ C ims L G p := fun a w hf hs => h a w hf hs.rem
end
section
class IsInt (P : Program) (T : Nat) (k : outParam IntKind) : Prop where u : P.underlying T = some (.int k)
section ops
variable {C : Cx} {dr : Bool} {ops : Array Oper} {Q : Post} {ims L : List Hp} {G : Env} {fl : List Bool} {rest : List Oper}
  {d ty : Nat} {pos : String} {af : Array Edge} {x y : Operand} {T T2 : Nat} {m k : Int} {κ κ2 : IntKind}
section two
variable (hx : ev G x = some (.int κ m)) (hy : ev G y = some (.int κ k))
include hx hy
theorem kl_addK (h : KL C dr ops Q ims L fl.tail rest ((d, .int κ (κ.wrap (m + k))) :: G)) (hlt : Nat.blt d C.n = true := by rfl) :
    KL C dr ops Q ims L fl (⟨some d, .binOp .add T x y T2, ty, pos, af, none⟩ :: rest) G := kl_y (fun a w hf _ => by simp [go_sem, hf _ _ hx, hf _ _ hy]) h hlt
theorem kl_andK (h : KL C dr ops Q ims L fl.tail rest ((d, .int κ (bits .and κ m k)) :: G)) (hlt : Nat.blt d C.n = true := by rfl) :
    KL C dr ops Q ims L fl (⟨some d, .binOp .and T x y T2, ty, pos, af, none⟩ :: rest) G := kl_y (fun a w hf _ => by simp [go_sem, hf _ _ hx, hf _ _ hy]) h hlt
theorem kl_geqK (h : KL C dr ops Q ims L fl.tail rest ((d, .bool (decide (k ≤ m))) :: G)) (hlt : Nat.blt d C.n = true := by rfl) :
    KL C dr ops Q ims L fl (⟨some d, .binOp .geq T x y T2, ty, pos, af, none⟩ :: rest) G := kl_y (fun a w hf _ => by simp [go_sem, hf _ _ hx, hf _ _ hy]) h hlt
end two
theorem kl_shrK (hx : ev G x = some (.int κ m)) (hy : ev G y = some (.int κ2 k)) (h0 : 0 ≤ k) (h : KL C dr ops Q ims L fl.tail rest ((d, .int κ (m.fdiv (2 ^ min k.toNat κ.bits))) :: G)) (hlt : Nat.blt d C.n = true := by rfl) :
    KL C dr ops Q ims L fl (⟨some d, .binOp .shr T x y T2, ty, pos, af, none⟩ :: rest) G := kl_y (fun a w hf _ => by
      have : ¬ k < 0 := by omega
      simp [go_sem, hf _ _ hx, hf _ _ hy, Op.shift, this]) h hlt
theorem kl_cv {T' : Nat} [hT : IsInt C.P T' κ] [hS : IsInt C.P T κ2] (hx : ev G x = some (.int κ2 m)) (h : KL C dr ops Q ims L fl.tail rest ((d, .int κ (κ.wrap m)) :: G)) (hlt : Nat.blt d C.n = true := by rfl) :
    KL C dr ops Q ims L fl (⟨some d, .convert T T' x, ty, pos, af, none⟩ :: rest) G := kl_y (fun a w hf _ => by
      simp [go_sem, hf _ _ hx, convert, run_underlying hT.u, run_underlying hS.u, Conv.intToInt]) h hlt
theorem kl_cvu {T' : Nat} [hT : IsInt C.P T' .u64] [hS : IsInt C.P T κ2] (hx : ev G x = some (.int κ2 m)) (hb : 0 ≤ m ∧ m < 18446744073709551616) (h : KL C dr ops Q ims L fl.tail rest ((d, .int .u64 m) :: G)) (hlt : Nat.blt d C.n = true := by rfl) :
    KL C dr ops Q ims L fl (⟨some d, .convert T T' x, ty, pos, af, none⟩ :: rest) G := kl_cv hx (by
      have e : IntKind.u64.wrap m = m := by rw [IntKind.wrap_u64]; omega
      rw [e]; exact h) hlt
section mm
variable (hx : ev G x = some (.int .i64 m)) (hy : ev G y = some (.int .i64 k))
include hx hy
end mm
section nils
variable {A : Type} {H : Hp} {kk E k' by' : Nat} {z : Value} {R : List Value → A → Prop} {v : Value} {xs : List A} [hT : IsSlice C.P T E k' by' z]
include hT
theorem kl_eqlnil (hx : ev G x = some v) (hy : ev G y = some (.slice none 0 0)) (hv : Sl H kk R v xs) (h : ∀ b, (b = true → xs = []) → KL C dr ops Q ims L fl.tail rest ((d, .bool b) :: G)) (hlt : Nat.blt d C.n = true := by rfl) :
    KL C dr ops Q ims L fl (⟨some d, .binOp .eql T x y T2, ty, pos, af, none⟩ :: rest) G := by
  obtain ⟨a, c, rfl, h1, h2, h3⟩ := hv
  refine kl_y (v := .bool a.isNone) (fun r w hr _ => ?_) (h _ (fun e => ?_)) hlt
  · simp [go_sem, hr _ _ hx, hr _ _ hy, Lib.run_eql_slice_nil w T E a xs.length c 0 0 hT.u]
  · cases a with
    | none =>
      cases xs with
      | nil => rfl
      | cons y ys => obtain ⟨_, _, e', _⟩ := h3 0 (by simp); cases e'
    | some a => cases e
theorem kl_eqlnilX (hx : ev G x = some v) (hy : ev G y = some (.slice none 0 0)) (hv : Sl H kk R v xs) (h : ∀ b, (b = true → xs = []) → (v = .slice none 0 0 → b = true) → KL C dr ops Q ims L fl.tail rest ((d, .bool b) :: G)) (hlt : Nat.blt d C.n = true := by rfl) :
    KL C dr ops Q ims L fl (⟨some d, .binOp .eql T x y T2, ty, pos, af, none⟩ :: rest) G := by
  obtain ⟨a, c, rfl, h1, h2, h3⟩ := hv
  refine kl_y (v := .bool a.isNone) (fun r w hr _ => ?_) (h _ (fun e => ?_) (fun e => ?_)) hlt
  · simp [go_sem, hr _ _ hx, hr _ _ hy, Lib.run_eql_slice_nil w T E a xs.length c 0 0 hT.u]
  · cases a with
    | none =>
      cases xs with
      | nil => rfl
      | cons y ys => obtain ⟨_, _, e', _⟩ := h3 0 (by simp); cases e'
    | some a => cases e
  · cases a with
    | none => rfl
    | some a => injection e with e1; cases e1
end nils
end ops
theorem tup2 {a a' b b' : Value} (h1 : a = a') (h2 : b = b') : Value.tuple #[a, b] = Value.tuple #[a', b'] := by rw [h1, h2]
theorem smpC : (∀ b : Bool, ((!b) = true) = (b = false)) ∧ (∀ b : Bool, ((!b) = false) = (b = true)) ∧ (!true) = false ∧ (!false) = true ∧ (∀ a b : Bool, ((a && b) = true) = (a = true ∧ b = true)) ∧ (∀ a b : Bool, ((a || b) = false) = (a = false ∧ b = false)) := by
  refine ⟨fun b => ?_, fun b => ?_, rfl, rfl, fun a b => ?_, fun a b => ?_⟩ <;> cases b <;> simp
end
section
theorem litInts {H : Hp} {v : Value} {xs : List Int} (h : Sl H 1 (fun cs u => cs = [u]) v (xs.map (Value.int .i64))) : Ints H v xs := by
  obtain ⟨a, c, hv, h1, h2, h3⟩ := h
  simp only [List.length_map] at hv h1 h2 h3
  refine ⟨a, c, hv, h1, h2, fun i hi => ?_⟩
  obtain ⟨b, o, e, vs, hl, hr, hat⟩ := h3 i hi
  exact ⟨b, o, e, vs, hl, (by simpa using hr : vs = [_]), hat⟩
/-! Lists. -/
theorem getD_mem {A : Type} {xs : List A} {i : Nat} {d : A} (h : i < xs.length) : xs.getD i d ∈ xs := by
  rw [List.getD_eq_getElem?_getD, List.getElem?_eq_getElem h]; simp
theorem take_succ_getD {A : Type} {xs : List A} {k : Nat} (d : A) (h : k < xs.length) : xs.take (k + 1) = xs.take k ++ [xs.getD k d] := by
  rw [List.take_succ_eq_append_getElem h, List.getD_eq_getElem?_getD, List.getElem?_eq_getElem h]; simp
theorem all_take_step {A : Type} {xs : List A} {k : Nat} {p : A → Bool} {d : A} (h : k < xs.length) (hp : (xs.take k).all p = true) (hk : p (xs.getD k d) = true) : (xs.take (k + 1)).all p = true := by
  rw [take_succ_getD d h, List.all_append, hp]; simp at hk ⊢; exact hk
theorem all_false {A : Type} {xs : List A} {k : Nat} {p : A → Bool} {d : A} (h : k < xs.length) (hk : p (xs.getD k d) = false) : xs.all p = false := by
  rw [List.all_eq_false]; exact ⟨xs.getD k d, getD_mem h, by rw [hk]; simp⟩
theorem any_take_step {A : Type} {xs : List A} {k : Nat} {p : A → Bool} {d : A} (h : k < xs.length) (hp : (xs.take k).any p = false) (hk : p (xs.getD k d) = false) : (xs.take (k + 1)).any p = false := by
  rw [take_succ_getD d h, List.any_append, hp]; simp at hk ⊢; exact hk
theorem any_true {A : Type} {xs : List A} {k : Nat} {p : A → Bool} {d : A} (h : k < xs.length) (hk : p (xs.getD k d) = true) : xs.any p = true := by
  rw [List.any_eq_true]; exact ⟨_, getD_mem h, hk⟩

def withinB (n lo hi : Int) : Bool := decide (lo ≤ n) && decide (n ≤ hi)
theorem withinB_iff {n lo hi : Int} : withinB n lo hi = true ↔ lo ≤ n ∧ n ≤ hi := by simp [withinB]
/-- The first index whose element answers yes, or -1. -/
def indexBy {A : Type} (p : A → Bool) (xs : List A) : Int := match xs.findIdx? p with | some i => (i : Int) | none => -1
theorem indexBy_hit {A : Type} {p : A → Bool} {xs : List A} {k : Nat} {d : A} (hk : k < xs.length) (hp : (xs.take k).any p = false) (h : p (xs.getD k d) = true) : (k : Int) = indexBy p xs := by
  have : xs.findIdx? p = some k := by
    rw [List.findIdx?_eq_some_iff_getElem]
    refine ⟨hk, ?_, fun j hj => ?_⟩
    · rw [List.getD_eq_getElem?_getD, List.getElem?_eq_getElem hk] at h; simpa using h
    · rw [List.any_eq_false] at hp
      have := hp (xs[j]) (by rw [List.mem_take_iff_getElem]; exact ⟨j, by omega, rfl⟩)
      simpa using this
  simp [indexBy, this]
theorem indexBy_none {A : Type} {p : A → Bool} {xs : List A} {k : Nat} (hk : ¬ (k : Int) < (xs.length : Int)) (hp : (xs.take k).any p = false) : (-1 : Int) = indexBy p xs := by
  have : xs.findIdx? p = none := by
    rw [List.findIdx?_eq_none_iff]
    intro x hx
    rw [List.take_of_length_le (by omega), List.any_eq_false] at hp
    simpa using hp x hx
  simp [indexBy, this]
theorem indexBy_any {A : Type} (p : A → Bool) (xs : List A) : decide ((0 : Int) ≤ indexBy p xs) = xs.any p := by
  unfold indexBy
  cases h : xs.findIdx? p with
  | none =>
    have : xs.any p = false := by rw [List.any_eq_false]; intro x hx; have := (List.findIdx?_eq_none_iff.1 h) x hx; simp [this]
    simp [this]
  | some i =>
    have := (List.findIdx?_eq_some_iff_getElem.1 h)
    obtain ⟨h1, h2, _⟩ := this
    have : xs.any p = true := by rw [List.any_eq_true]; exact ⟨xs[i], List.getElem_mem h1, h2⟩
    simp [this]
def allInB (xs : List Int) (lo hi : Int) : Bool := xs.all fun n => withinB n lo hi
def distinctB (xs : List Int) : Bool := decide xs.Nodup
theorem nodup_take_succ {xs : List Int} {k : Nat} (h : k < xs.length) : (xs.take (k + 1)).Nodup ↔ (xs.take k).Nodup ∧ xs.getD k 0 ∉ xs.take k := by
  rw [take_succ_getD 0 h, List.nodup_append]
  constructor
  · rintro ⟨h1, _, h2⟩; exact ⟨h1, fun h3 => h2 _ h3 _ (.head _) rfl⟩
  · rintro ⟨h1, h2⟩; exact ⟨h1, by simp, fun a ha b hb e => h2 (by have hb' := List.mem_singleton.1 hb; subst hb'; exact e ▸ ha)⟩
theorem nodup_not {xs : List Int} {k : Nat} (h : k < xs.length) (hm : xs.getD k 0 ∈ xs.take k) : ¬ xs.Nodup := fun hn => by
  have := (nodup_take_succ h).1 (hn.sublist (List.take_sublist _ _))
  exact this.2 hm

/-! Models. -/
def validDomB (d : Int) : Bool := withinB d 0 63
def rowsInB (rows : List (List Int)) (n lo hi : Int) : Bool := withinB rows.length 1 8 && rows.all fun r => decide ((r.length : Int) = n) && allInB r lo hi
def fitsB (c : Con) : Bool :=
  if c.kind = 1 then (decide ((c.args.length : Int) = c.vars.length) && allInB c.args (-9) 9) && withinB c.bound (-999) 999 && decide ((c.rows.length : Int) = 0)
  else if c.kind = 2 then decide ((c.vars.length : Int) = 2) && (decide ((c.args.length : Int) = 1) && allInB c.args (-9) 9) && decide (c.bound = 0) && decide ((c.rows.length : Int) = 0)
  else if c.kind = 3 ∨ c.kind = 9 then decide ((c.args.length : Int) = 0) && decide (c.bound = 0) && decide ((c.rows.length : Int) = 0)
  else if c.kind = 4 then decide ((c.vars.length : Int) = 2) && withinB c.args.length 1 6 && allInB c.args 0 5 && decide (c.bound = 0) && decide ((c.rows.length : Int) = 0)
  else if c.kind = 5 then decide ((c.args.length : Int) = 0) && decide (c.bound = 0) && rowsInB c.rows c.vars.length 0 5
  else if c.kind = 6 then (decide ((c.args.length : Int) = 1) && allInB c.args 0 5) && withinB c.bound 0 4 && decide ((c.rows.length : Int) = 0)
  else if c.kind = 7 then (decide ((c.args.length : Int) = 2 * c.vars.length) && allInB c.args 0 9) && withinB c.bound 0 9 && decide ((c.rows.length : Int) = 0)
  else if c.kind = 8 then rowsInB c.rows 6 (-1) (c.rows.length - 1) && distinctB c.args && allInB c.args 0 (c.rows.length - 1) && decide (c.bound = 0)
  else false
def validConB (c : Con) (n : Int) : Bool := withinB n 1 4 && withinB c.vars.length 1 n && allInB c.vars 0 (n - 1) && distinctB c.vars && fitsB c
def domainsOkB (ds : List Int) : Bool := withinB ds.length 1 4 && allInB ds 0 63
def validModB (m : Mod) : Bool := domainsOkB m.doms && decide ((m.cons.length : Int) ≤ 6) && m.cons.all fun c => validConB c m.doms.length
end
section
theorem not_mem_k2 {xs : List Int} {k j : Nat} (h : k ≤ j) (ha : (xs.take j).all (fun y => decide (xs.getD k 0 ≠ y)) = true) : xs.getD k 0 ∉ xs.take k := fun hm => by
  rw [List.all_eq_true] at ha
  have := ha _ ((List.take_subset_take_left xs h) hm)
  simp at this
theorem mem_take_of {xs : List Int} {k i : Nat} (h : k < i) (hi : i < xs.length) (e : xs.getD i 0 = xs.getD k 0) : xs.getD i 0 ∈ xs.take i := by
  rw [e, List.getD_eq_getElem?_getD, List.getElem?_eq_getElem (by omega)]
  simp only [Option.getD_some]
  rw [List.mem_take_iff_getElem]; exact ⟨k, by omega, rfl⟩
theorem rowBad {a n : Int} {b : Bool} (h : (decide (a ≠ n) || !b) = true) : (decide (a = n) && b) = false := by simp at h; cases b <;> simp_all
theorem rowGood {a n : Int} {b : Bool} (h : ¬ a ≠ n ∧ b = true) : (decide (a = n) && b) = true := by simp at h; simp [h]
def validConS (c : Con) (n : Int) : Bool := withinB c.vars.length 1 n && allInB c.vars 0 (n - 1) && distinctB c.vars && fitsB c
theorem conS_no {c : Con} {n : Int} (h : (!withinB c.vars.length 1 n || !allInB c.vars 0 (n - 1) || !distinctB c.vars) = true) : false = validConS c n := by
  simp only [validConS]; revert h; cases withinB (c.vars.length : Int) 1 n <;> cases allInB c.vars 0 (n - 1) <;> cases distinctB c.vars <;> simp
theorem conS_yes {c : Con} {n : Int} {b : Bool} (h : (!withinB c.vars.length 1 n || !allInB c.vars 0 (n - 1) || !distinctB c.vars) = false) (hb : b = fitsB c) : b = validConS c n := by
  simp only [validConS, hb]; revert h; cases withinB (c.vars.length : Int) 1 n <;> cases allInB c.vars 0 (n - 1) <;> cases distinctB c.vars <;> simp
theorem validModB_d {m : Mod} {k : Nat} (hk : k < m.doms.length) (h : validDomB (m.doms.getD k 0) = false) : false = validModB m := by
  have : allInB m.doms 0 63 = false := all_false (d := 0) hk h
  simp [validModB, domainsOkB, this]
theorem validModB_c {m : Mod} {k : Nat} (hk : k < m.cons.length) (h : validConS (m.cons.getD k nilCon) m.doms.length = false) : false = validModB m := by
  have : (m.cons.all fun c => validConB c m.doms.length) = false := all_false (d := nilCon) hk (by
    simp only [validConS] at h; simp only [validConB, Bool.and_assoc] at h ⊢; rw [h]; simp)
  simp only [validModB, this, Bool.and_false]
theorem validModB_all {m : Mod} (h : m.doms.all validDomB = true) (hc : (m.cons.all fun c => validConS c m.doms.length) = true) :
    (withinB m.doms.length 1 4 && decide ((m.cons.length : Int) ≤ 6)) = validModB m := by
  have h' : allInB m.doms 0 63 = true := h
  simp only [validModB, domainsOkB, h', Bool.and_true]
  cases hw : withinB (m.doms.length : Int) 1 4 with
  | false => simp
  | true =>
    have : (m.cons.all fun c => validConB c m.doms.length) = true := by
      rw [← hc]; congr 1; funext c; simp only [validConB, validConS, hw, Bool.true_and]
    simp [this]
theorem contains_hit {xs : List Int} {n : Int} {k : Nat} (hk : k < xs.length) (h : xs.getD k 0 = n) : true = xs.contains n := by
  symm; rw [List.contains_iff_mem]; exact h ▸ getD_mem hk
theorem contains_none {xs : List Int} {n : Int} {k : Nat} (hk : ¬ (k : Int) < (xs.length : Int)) (h : (xs.take k).any (fun y => decide (y = n)) = false) : false = xs.contains n := by
  rw [List.take_of_length_le (by omega), List.any_eq_false] at h
  symm; rw [← Bool.not_eq_true, List.contains_iff_mem]; intro hm
  have := h n hm; simp at this
/-- Two different variables occur together in a constraint. -/
def joins (u v : Int) (c : Con) : Bool := decide (u ≠ v) && c.vars.contains u && c.vars.contains v
def adjB (cons : List Con) (u v : Int) : Bool := cons.any (joins u v)
end
section
instance : DecidableEq Con := fun a b => decidable_of_iff (a.kind = b.kind ∧ a.vars = b.vars ∧ a.args = b.args ∧ a.bound = b.bound ∧ a.rows = b.rows) (by cases a; cases b; simp)
instance : DecidableEq Mod := fun a b => decidable_of_iff (a.doms = b.doms ∧ a.cons = b.cons) (by cases a; cases b; simp)
theorem OwnL.cast {A : Type} {E k : Nat} {H K : Hp} {R : Hp → List Value → A → Prop} {v : Value} {xs ys : List A} (e : xs = ys) (h : OwnL E k H K R v xs) : OwnL E k H K R v ys := e ▸ h
theorem OwnL.rowsK {E : Nat} {H K : Hp} {v : Value} {xs : List (List Int)} (h : OwnL E 1 H K RowV v xs) (c : Cmp H K) : Rows (orHp H K) v xs := (h.mono (K' := orHp H K) (orC c)).sl orL (fun _ _ h => h)
theorem OwnL.consK {E : Nat} {H K : Hp} {v : Value} {xs : List Con} (h : OwnL E 5 H K ConV v xs) (c : Cmp H K) : Cons (orHp H K) v xs := (h.mono (K' := orHp H K) (orC c)).sl orL (fun _ _ h => h)
/-! Sizes. -/
def szB (left n : Int) : Int := if left - n < 0 then -1 else left - n
theorem szB_neg {l n : Int} (h : l - n < 0) : (-1 : Int) = szB l n := by simp [szB, h]
theorem szB_pos {l n x : Int} (h : x = l - n) (h0 : 0 ≤ x) : x = szB l n := by simp only [szB]; split <;> omega
theorem szB_ok {l n : Int} (h : ¬ szB l n < 0) : szB l n = l - n ∧ 0 ≤ l - n := by simp only [szB] at *; split at h <;> simp_all <;> omega
theorem szB_lt {l n : Int} (h : szB l n < 0) : l - n < 0 := by simp only [szB] at *; split at h <;> omega
def rsum (xs : List (List Int)) : Nat := (xs.map List.length).sum
def conN (c : Con) : Nat := c.vars.length + c.args.length + (c.rows.length + rsum c.rows)
def csum (cs : List Con) : Nat := (cs.map conN).sum
def modN (m : Mod) : Nat := m.doms.length + (m.cons.length + csum m.cons)
theorem rsum_step {xs : List (List Int)} {k : Nat} (h : k < xs.length) : rsum (xs.take (k + 1)) = rsum (xs.take k) + (xs.getD k []).length := by
  rw [take_succ_getD [] h]; simp [rsum]
theorem csum_step {xs : List Con} {k : Nat} (h : k < xs.length) : csum (xs.take (k + 1)) = csum (xs.take k) + conN (xs.getD k nilCon) := by
  rw [take_succ_getD nilCon h]; simp [csum]
theorem sum_take_le (xs : List Nat) (k : Nat) : (xs.take k).sum ≤ xs.sum := by
  conv => rhs; rw [← List.take_append_drop k xs, List.sum_append]
  omega
theorem rsum_le (xs : List (List Int)) (k : Nat) : rsum (xs.take k) ≤ rsum xs := by simp only [rsum, List.map_take]; exact sum_take_le _ _
theorem csum_le (xs : List Con) (k : Nat) : csum (xs.take k) ≤ csum xs := by simp only [csum, List.map_take]; exact sum_take_le _ _
theorem le_sum_of {xs : List Nat} {n : Nat} (h : n ∈ xs) : n ≤ xs.sum := by
  induction xs with
  | nil => cases h
  | cons x xs ih =>
    simp only [List.sum_cons]
    cases h with
    | head => omega
    | tail _ h => have := ih h; omega
theorem rsum_mem {xs : List (List Int)} {r : List Int} (h : r ∈ xs) : r.length ≤ rsum xs := le_sum_of (List.mem_map.2 ⟨r, h, rfl⟩)
theorem csum_mem {xs : List Con} {c : Con} (h : c ∈ xs) : conN c ≤ csum xs := le_sum_of (List.mem_map.2 ⟨c, h, rfl⟩)
def SmallC (c : Con) : Prop := conN c ≤ 1048576
def SmallM (m : Mod) : Prop := modN m ≤ 1048576
theorem SmallC.vars {c : Con} (h : SmallC c) : c.vars.length ≤ 1048576 := by simp only [SmallC, conN] at h; omega
theorem SmallC.args {c : Con} (h : SmallC c) : c.args.length ≤ 1048576 := by simp only [SmallC, conN] at h; omega
theorem SmallC.rows {c : Con} (h : SmallC c) : c.rows.length ≤ 1048576 := by simp only [SmallC, conN] at h; omega
theorem SmallC.row {c : Con} (h : SmallC c) : ∀ r ∈ c.rows, r.length ≤ 1048576 := fun r hr => by
  have := rsum_mem hr; simp only [SmallC, conN] at h; omega
theorem SmallM.doms {m : Mod} (h : SmallM m) : m.doms.length ≤ 1048576 := by simp only [SmallM, modN] at h; omega
theorem SmallM.cons {m : Mod} (h : SmallM m) : m.cons.length ≤ 1048576 := by simp only [SmallM, modN] at h; omega
theorem SmallM.con {m : Mod} (h : SmallM m) : ∀ c ∈ m.cons, SmallC c := fun c hc => by
  have := csum_mem hc; simp only [SmallM, SmallC, modN] at *; omega
/-! Copies. -/
theorem fill_step {A : Type} {xs : List A} {z : A} {k : Nat} (d : A) (h : k < xs.length) :
    (xs.take k ++ List.replicate (xs.length - k) z).set k (xs.getD k d) = xs.take (k + 1) ++ List.replicate (xs.length - (k + 1)) z := by
  rw [List.set_append_right _ _ (by simp; omega), take_succ_getD d h, List.append_assoc]
  congr 1
  obtain ⟨j, hj⟩ : ∃ j, xs.length - k = j + 1 := ⟨xs.length - k - 1, by omega⟩
  have e1 : xs.length - (k + 1) = j := by omega
  have e2 : min k xs.length = k := by omega
  simp only [hj, e1, e2, List.length_take, Nat.sub_self, List.replicate_succ, List.set_cons_zero, List.singleton_append]
theorem fill_end {A : Type} {xs : List A} {z : A} {k : Nat} (h : ¬ (k : Int) < (xs.length : Int)) : xs.take k ++ List.replicate (xs.length - k) z = xs := by
  rw [List.take_of_length_le (by omega), show xs.length - k = 0 by omega]; simp
/-! Comparisons. -/
theorem eq_len {A : Type} [DecidableEq A] {a b : List A} (h : (a.length : Int) ≠ b.length) : false = decide (a = b) := by
  symm; rw [decide_eq_false_iff_not]; rintro rfl; exact h rfl
theorem eq_at {A : Type} [DecidableEq A] {a b : List A} {k : Nat} (d : A) (h : a.getD k d ≠ b.getD k d) : false = decide (a = b) := by
  symm; rw [decide_eq_false_iff_not]; rintro rfl; exact h rfl
theorem eq_step {A : Type} {a b : List A} {k : Nat} (d : A) (h : k < a.length) (hl : (a.length : Int) = b.length) (h1 : a.take k = b.take k) (h2 : a.getD k d = b.getD k d) : a.take (k + 1) = b.take (k + 1) := by
  rw [take_succ_getD d h, take_succ_getD d (by omega), h1, h2]
theorem eq_end {A : Type} [DecidableEq A] {a b : List A} {k : Nat} (hk : ¬ (k : Int) < (a.length : Int)) (hl : (a.length : Int) = b.length) (h1 : a.take k = b.take k) : true = decide (a = b) := by
  rw [List.take_of_length_le (by omega), List.take_of_length_le (by omega)] at h1; simp [h1]
theorem eqCon_iff {a b : Con} : decide (a = b) = (decide (a.kind = b.kind) && decide (a.vars = b.vars) && decide (a.args = b.args) && decide (a.bound = b.bound) && decide (a.rows = b.rows)) := by
  cases a; cases b; simp [and_assoc, ← Bool.decide_and]
theorem eqMod_iff {a b : Mod} : decide (a = b) = (decide (a.doms = b.doms) && decide (a.cons = b.cons)) := by
  cases a; cases b; simp [← Bool.decide_and]
end
section
theorem wraps_i64 (n : Int) (h₀ : 0 ≤ n) (h₁ : n < 2 ^ 63) : IntKind.i64.wrap n = n := by rw [IntKind.wrap_i64]; omega
theorem ior_nat {a b : Nat} (ha : a < 2 ^ 63) (hb : b < 2 ^ 63) : ior (a : Int) (b : Int) = ((a ||| b : Nat) : Int) := (bits_nat .i64 63 (by decide) wraps_i64 a b ha hb).2
theorem iand_nat {a b : Nat} (ha : a < 2 ^ 63) (hb : b < 2 ^ 63) : iand (a : Int) (b : Int) = ((a &&& b : Nat) : Int) := (bits_nat .i64 63 (by decide) wraps_i64 a b ha hb).1
theorem ishl_one {b : Nat} (hb : b < 63) : ishl 1 (b : Int) = ((2 ^ b : Nat) : Int) := by
  simp only [ishl, Int.toNat_natCast, Int.one_mul, Nat.min_eq_left (show b ≤ 64 by omega)]
  rw [wraps_i64 _ (by exact Int.pow_nonneg (by decide)) (by exact_mod_cast Nat.pow_lt_pow_right (by decide) hb)]
  simp
theorem ishr_nat {a i : Nat} (hi : i ≤ 64) : ishr (a : Int) (i : Int) = ((a >>> i : Nat) : Int) := by
  simp only [ishr, Int.toNat_natCast, Nat.min_eq_left hi, Nat.shiftRight_eq_div_pow]
  rw [Int.fdiv_eq_ediv_of_nonneg _ (Int.pow_nonneg (by decide))]
  simp
def hasB (m i : Int) : Bool := decide (iand (ishr m i) 1 = 1)
theorem hasB_nat {m i : Nat} (hm : m < 2 ^ 63) (hi : i ≤ 64) : hasB (m : Int) (i : Int) = m.testBit i := by
  have h1 : m >>> i < 2 ^ 63 := Nat.lt_of_le_of_lt (by rw [Nat.shiftRight_eq_div_pow]; exact Nat.div_le_self _ _) hm
  simp only [hasB, ishr_nat hi]
  rw [show ((1 : Int)) = ((1 : Nat) : Int) from rfl, iand_nat h1 (by decide), Nat.testBit, Nat.and_comm]
  simp only [Nat.one_and_eq_mod_two]
  rcases Nat.mod_two_eq_zero_or_one (m >>> i) with h | h <;> simp [h]
/-! The graph. -/
def gB (a : Int) (g : List Int) (b : Int) : List Int := if a ≠ b then g.set a.toNat (ior (g.getD a.toNat 0) (ishl 1 b)) else g
def gA (vs : List Int) (g : List Int) (a : Int) : List Int := vs.foldl (gB a) g
def gC (g : List Int) (c : Con) : List Int := c.vars.foldl (gA c.vars) g
def graphI (m : Mod) : List Int := m.cons.foldl gC (List.replicate m.doms.length 0)
/-- The variables of all constraints are indexes below n. -/
def InN (cons : List Con) (n : Nat) : Prop := ∀ c ∈ cons, ∀ a ∈ c.vars, (0 : Int) ≤ a ∧ a < n
/-- A list of masks that hold exactly the pairs of p. -/
def MaskG (n : Nat) (g : List Int) (p : Nat → Nat → Prop) : Prop := g.length = n ∧ ∀ a, a < n → ∃ x : Nat, g.getD a 0 = (x : Int) ∧ ∀ b, x.testBit b = true ↔ b < n ∧ p a b
theorem MaskG.congr {n : Nat} {g : List Int} {p q : Nat → Nat → Prop} (h : MaskG n g p) (e : ∀ a b, p a b ↔ q a b) : MaskG n g q :=
  ⟨h.1, fun a ha => by obtain ⟨x, h1, h2⟩ := h.2 a ha; exact ⟨x, h1, fun b => by rw [h2, e]⟩⟩
theorem lt_of_bits {x n : Nat} (h : ∀ b, x.testBit b = true → b < n) : x < 2 ^ n := Nat.lt_pow_two_of_testBit _ (fun i hi => by
  cases hx : x.testBit i with
  | false => rfl
  | true => have := h i hx; omega)
theorem MaskG.gB {n : Nat} {g : List Int} {p : Nat → Nat → Prop} (hn : n ≤ 62) (h : MaskG n g p) {a b : Int} (ha : 0 ≤ a ∧ a < n) (hb : 0 ≤ b ∧ b < n) :
    MaskG n (gB a g b) (fun x y => p x y ∨ ((x : Int) = a ∧ (y : Int) = b ∧ a ≠ b)) := by
  unfold Go.Proofs.YtolndgeihijlbaaGreat.gB
  by_cases e : a = b
  · simp only [e, ne_eq, not_true_eq_false, if_false]
    exact h.congr (fun x y => by simp)
  · simp only [ne_eq, e, not_false_eq_true, if_true]
    obtain ⟨a, rfl⟩ := Int.eq_ofNat_of_zero_le ha.1
    obtain ⟨b, rfl⟩ := Int.eq_ofNat_of_zero_le hb.1
    have ha' : a < n := by omega
    have hb' : b < n := by omega
    obtain ⟨x, h1, h2⟩ := h.2 a ha'
    have hx : x < 2 ^ 63 := Nat.lt_of_lt_of_le (lt_of_bits (n := n) (fun b hb => ((h2 b).1 hb).1)) (Nat.pow_le_pow_right (by decide) (by omega))
    have hp : 2 ^ b < 2 ^ 63 := Nat.pow_lt_pow_right (by decide) (by omega)
    simp only [Int.toNat_natCast]
    rw [h1, ishl_one (by omega), ior_nat hx hp]
    refine ⟨by simpa using h.1, fun a' ha2 => ?_⟩
    by_cases ea : a' = a
    · subst ea
      refine ⟨x ||| 2 ^ b, by simp [List.getD_eq_getElem?_getD, List.getElem?_set, h.1, ha'], fun y => ?_⟩
      rw [Nat.testBit_or, Bool.or_eq_true, h2, Nat.testBit_two_pow]
      simp only [decide_eq_true_eq]
      constructor
      · rintro (h | h)
        · exact ⟨h.1, .inl h.2⟩
        · subst h; exact ⟨hb', .inr (by simp [e])⟩
      · rintro ⟨h, h3 | h3⟩
        · exact .inl ⟨h, h3⟩
        · right; omega
    · obtain ⟨x', h3, h4⟩ := h.2 a' ha2
      refine ⟨x', by rw [← h3]; simp [List.getD_eq_getElem?_getD, List.getElem?_set, Ne.symm ea], fun y => ?_⟩
      rw [h4]
      constructor
      · rintro ⟨h5, h6⟩; exact ⟨h5, .inl h6⟩
      · rintro ⟨h5, h6 | h6⟩
        · exact ⟨h5, h6⟩
        · omega
theorem MaskG.gA {n : Nat} (hn : n ≤ 62) {a : Int} (ha : 0 ≤ a ∧ a < n) : ∀ {vs : List Int} {g : List Int} {p : Nat → Nat → Prop}, MaskG n g p → (∀ b ∈ vs, 0 ≤ b ∧ b < n) →
    MaskG n (gA vs g a) (fun x y => p x y ∨ ((x : Int) = a ∧ (y : Int) ∈ vs ∧ x ≠ y))
  | [], g, p, h, _ => h.congr (fun x y => by simp)
  | v :: vs, g, p, h, hb => by
    have h1 := (h.gB hn ha (hb v (.head _)))
    have h2 := MaskG.gA hn ha (vs := vs) h1 (fun b hm => hb b (.tail _ hm))
    refine h2.congr (fun x y => ?_)
    simp only [List.mem_cons]
    constructor
    · rintro ((h | ⟨h3, h4, h5⟩) | ⟨h3, h4, h5⟩)
      · exact .inl h
      · exact .inr ⟨h3, .inl h4, by omega⟩
      · exact .inr ⟨h3, .inr h4, h5⟩
    · rintro (h | ⟨h3, h4 | h4, h5⟩)
      · exact .inl (.inl h)
      · exact .inl (.inr ⟨h3, h4, by omega⟩)
      · exact .inr ⟨h3, h4, h5⟩
end
section
/-! The program's way. -/
def lkTo (g : List Int) (w o : Int) (k : Nat) : Int := (List.range k).foldl (fun x (i : Nat) => if hasB o (i : Int) = true then ior x (iandNot (g.getD i 0) w) else x) o
def lkIter (g : List Int) (w : Int) : Nat → Int → Int
  | 0, o => o
  | f + 1, o => if lkTo g w o g.length = o then o else lkIter g w f (lkTo g w o g.length)
def linkedI (m : Mod) (v w : Int) : Int := lkIter (graphI m) w 16 (ishl 1 v)
/-- A path from v through indexes outside w. -/
inductive Conn (n : Nat) (p : Nat → Nat → Prop) (w : Nat → Prop) (v : Nat) : Nat → Prop where
  | refl : Conn n p w v v
  | step {a b : Nat} : Conn n p w v a → p a b → b < n → ¬ w b → Conn n p w v b
end
section
def ROk (n : Nat) (out : List Int) : Prop := out.Nodup ∧ ∀ x ∈ out, (0 : Int) ≤ x ∧ x < n
theorem nodup_len : ∀ (n : Nat) (out : List Int), out.Nodup → (∀ x ∈ out, (0 : Int) ≤ x ∧ x < n) → out.length ≤ n
  | 0, [], _, _ => Nat.le_refl _
  | 0, x :: xs, _, h => by have := h x (.head _); omega
  | n + 1, out, hd, h => by
    have h1 : (out.filter (fun x => decide (x ≠ (n : Int)))).length ≤ n := nodup_len n _ (hd.filter _) (fun x hx => by
      obtain ⟨h2, h3⟩ := List.mem_filter.1 hx
      have := h x h2
      have h4 : x ≠ (n : Int) := by simpa using h3
      omega)
    have h2 : out.length ≤ (out.filter (fun x => decide (x ≠ (n : Int)))).length + 1 := by
      clear h1 h
      induction out with
      | nil => simp
      | cons x xs ih =>
        have hx := List.nodup_cons.1 hd
        by_cases e : x = (n : Int)
        · subst e
          have : (xs.filter (fun x => decide (x ≠ (n : Int)))) = xs := List.filter_eq_self.2 (fun a ha => by
            have : a ≠ (n : Int) := fun e => hx.1 (e ▸ ha)
            simpa using this)
          rw [List.filter_cons_of_neg (by simp), this]; simp
        · have := ih hx.2
          rw [List.filter_cons_of_pos (by simpa using e)]; simp only [List.length_cons]; omega
    omega
theorem ROk.len {n : Nat} {out : List Int} (h : ROk n out) : out.length ≤ n := nodup_len n out h.1 h.2
theorem ROk.push {n : Nat} {out : List Int} {j : Nat} (h : ROk n out) (hj : j < n) (hc : out.contains (j : Int) = false) : ROk n (out ++ [(j : Int)]) := by
  have hm : (j : Int) ∉ out := fun hm => by rw [← List.contains_iff_mem, hc] at hm; cases hm
  refine ⟨List.nodup_append.2 ⟨h.1, by simp, fun a ha b hb e => hm (by rw [List.mem_singleton.1 hb] at e; exact e ▸ ha)⟩, fun x hx => ?_⟩
  rcases List.mem_append.1 hx with hx | hx
  · exact h.2 x hx
  · rw [List.mem_singleton.1 hx]; omega
/-! What it comes to. -/
section
variable {cons : List Con} {rem : List Int} {n : Nat} {v : Nat}
end
theorem ROk.one {n : Nat} {v : Int} (h : 0 ≤ v ∧ v < n) : ROk n [v] := ⟨by simp, fun x hx => by rw [List.mem_singleton.1 hx]; exact h⟩
theorem Conn.congr {n : Nat} {p : Nat → Nat → Prop} {w w' : Nat → Prop} {v b : Nat} (e : ∀ i, i < n → (w i ↔ w' i)) (h : Conn n p w v b) : Conn n p w' v b := by
  induction h with
  | refl => exact .refl
  | step _ hp hc hw ih => exact .step ih hp hc (fun h => hw ((e _ hc).2 h))
end
section
theorem kl_fg {C : Cx} {ops : Array Oper} {Q : Post} {ims0 ims L0 L : List Hp} {G : Env} {fl : List Bool} {l : List Oper} [i : AllIn ims0 ims] (hl : List.Sublist L0 L) (h : KL C false ops Q ims0 L0 fl l G) : KL C false ops Q ims L fl l G :=
  fun a w hf hs => wpSeq_false (fun _ hu => (St.wl hl hu).ims) _ _ _ _ (h a w hf (hs.weak hl))
/-! Rounds of the program's walk. -/
/-! Sets of variables. -/
def withF (w x : Int) : Int := ior w (ishl 1 x)
def withoutI (vars : List Int) : Int := vars.foldl withF 0
theorem with_nat {n : Nat} (hn : n ≤ 4) : ∀ {vars : List Int} {w : Nat}, (∀ x ∈ vars, (0 : Int) ≤ x ∧ x < n) → w < 2 ^ n →
    ∃ x : Nat, vars.foldl withF (w : Int) = (x : Int) ∧ x < 2 ^ n ∧ ∀ b, x.testBit b = true ↔ w.testBit b = true ∨ (b : Int) ∈ vars
  | [], w, _, hw => ⟨w, rfl, hw, fun b => by simp⟩
  | v :: vars, w, h, hw => by
    have h2n : 2 ^ n ≤ 2 ^ 4 := Nat.pow_le_pow_right (by decide) hn
    have hv := h v (.head _)
    obtain ⟨v, rfl⟩ := Int.eq_ofNat_of_zero_le hv.1
    have h1 : 2 ^ v < 2 ^ n := Nat.pow_lt_pow_right (by decide) (by omega)
    obtain ⟨x, h3, h4, h5⟩ := with_nat hn (vars := vars) (w := w ||| 2 ^ v) (fun x hx => h x (.tail _ hx)) (Nat.or_lt_two_pow hw h1)
    refine ⟨x, ?_, h4, fun b => ?_⟩
    · rw [List.foldl_cons, withF, ishl_one (by omega), ior_nat (by omega) (by omega)]; exact h3
    · rw [h5, Nat.testBit_or, Bool.or_eq_true, Nat.testBit_two_pow, decide_eq_true_eq, List.mem_cons]
      constructor
      · rintro ((h | h) | h)
        · exact .inl h
        · exact .inr (.inl (by omega))
        · exact .inr (.inr h)
      · rintro (h | h | h)
        · exact .inl (.inl h)
        · exact .inl (.inr (by omega))
        · exact .inr h
theorem withoutI_nat {n : Nat} (hn : n ≤ 4) {vars : List Int} (h : ∀ x ∈ vars, (0 : Int) ≤ x ∧ x < n) : ∃ x : Nat, withoutI vars = (x : Int) ∧ ∀ b, x.testBit b = true ↔ (b : Int) ∈ vars := by
  obtain ⟨x, h1, _, h3⟩ := with_nat hn (w := 0) h (Nat.two_pow_pos n)
  exact ⟨x, h1, fun b => by rw [h3]; simp⟩
/-! Valid models. -/
theorem allInB_iff {xs : List Int} {lo hi : Int} : allInB xs lo hi = true ↔ ∀ x ∈ xs, lo ≤ x ∧ x ≤ hi := by simp [allInB, List.all_eq_true, withinB]
theorem valid_n {m : Mod} (h : validModB m = true) : 1 ≤ m.doms.length ∧ m.doms.length ≤ 4 := by
  simp only [validModB, domainsOkB, Bool.and_eq_true, withinB_iff] at h; omega
theorem valid_in {m : Mod} (h : validModB m = true) : InN m.cons m.doms.length := fun c hc a ha => by
  simp only [validModB, Bool.and_eq_true, List.all_eq_true] at h
  have := h.2 c hc
  simp only [validConB, Bool.and_eq_true] at this
  have := allInB_iff.1 this.1.1.2 a ha
  omega
/-! Separators. -/
structure SepOk (m : Mod) (vars : List Int) (u v : Int) : Prop where
  n1 : 1 ≤ m.doms.length
  n : m.doms.length ≤ 4
  i : InN m.cons m.doms.length
  vs : ∀ x ∈ vars, (0 : Int) ≤ x ∧ x < m.doms.length
  u : 0 ≤ u ∧ u < m.doms.length
  v : 0 ≤ v ∧ v < m.doms.length
theorem SepOk.w {m : Mod} {vars : List Int} {u v : Int} (h : SepOk m vars u v) : 0 ≤ withoutI vars := by
  obtain ⟨x, h1, _⟩ := withoutI_nat h.n h.vs; rw [h1]; exact Int.natCast_nonneg _
theorem small_of {m : Mod} (h : szB 1048576 (modN m : Nat) = 1048576 - (modN m : Nat) ∧ (0 : Int) ≤ 1048576 - (modN m : Nat)) : SmallM m := by simp only [SmallM]; omega
end
section
def natsI (xs : List Nat) : List Int := xs.map (fun (i : Nat) => (i : Int))
def membersTo (b : Int) (k : Nat) : List Int := natsI ((List.range k).filter (fun (i : Nat) => hasB b (i : Int)))
theorem filter_succ (p : Nat → Bool) (k : Nat) : (List.range (k + 1)).filter p = (List.range k).filter p ++ (if p k = true then [k] else []) := by
  rw [List.range_succ, List.filter_append]; congr 1
  by_cases h : p k = true
  · simp [h]
  · simp [h]
theorem members_stepT {b : Int} {k : Nat} {out : List Int} (h : out = membersTo b k) (c : hasB b (k : Int) = true) : out ++ [(k : Int)] = membersTo b (k + 1) := by
  subst h; simp only [membersTo, natsI, filter_succ, c, if_true, List.map_append, List.map_cons, List.map_nil]
theorem members_stepF {b : Int} {k : Nat} {out : List Int} (h : out = membersTo b k) (c : hasB b (k : Int) = false) : out = membersTo b (k + 1) := by
  subst h; simp only [membersTo, natsI, filter_succ, c, Bool.false_eq_true, if_false, List.append_nil]
theorem members_len {b : Int} {k : Nat} {out : List Int} (h : out = membersTo b k) : out.length ≤ k := by
  subst h; simp only [membersTo, natsI, List.length_map]; exact Nat.le_trans (List.length_filter_le _ _) (by simp)
theorem adjB_comm (cons : List Con) (u v : Int) : adjB cons u v = adjB cons v u := by
  simp only [adjB]; congr 1; funext c; simp only [joins]
  rw [Bool.and_right_comm]
  congr 2
  exact decide_eq_decide.2 ⟨fun h e => h e.symm, fun h e => h e.symm⟩
end
section
theorem getD_map {A N : Type} {m : A → N} {q a : List A} (l : q.map m = a.map m) (d : A) (k : Nat) : m (q.getD k d) = m (a.getD k d) := by
  have h := congrArg (fun z => z[k]?) l
  simp only [List.getElem?_map] at h
  rw [List.getD_eq_getElem?_getD, List.getD_eq_getElem?_getD]
  cases h1 : q[k]? <;> cases h2 : a[k]? <;> simp_all
theorem getD_len {q a : List (List Int)} (l : q.map List.length = a.map List.length) (k : Nat) : (q.getD k []).length = (a.getD k []).length := getD_map l [] k
theorem rsum_of {q a : List (List Int)} (l : q.map List.length = a.map List.length) : rsum q = rsum a := by simp only [rsum, l]
theorem conSz_of {c c' : Con} (h : conSz c' = conSz c) : c'.vars.length = c.vars.length ∧ c'.args.length = c.args.length ∧ c'.rows.length = c.rows.length ∧ rsum c'.rows = rsum c.rows := by
  simp only [conSz, Prod.mk.injEq] at h
  exact ⟨h.1, h.2.1, len_of h.2.2, rsum_of h.2.2⟩
theorem getD_con {q a : List Con} (l : q.map conSz = a.map conSz) (k : Nat) : (q.getD k nilCon).vars.length = (a.getD k nilCon).vars.length ∧ (q.getD k nilCon).args.length = (a.getD k nilCon).args.length ∧ (q.getD k nilCon).rows.length = (a.getD k nilCon).rows.length ∧ rsum (q.getD k nilCon).rows = rsum (a.getD k nilCon).rows := conSz_of (getD_map l nilCon k)
def mcN (c : Con) : Nat := 2 + c.vars.length + c.args.length + rsum c.rows
def msum (cs : List Con) : Nat := (cs.map mcN).sum
theorem msum_of {q a : List Con} (l : q.map conSz = a.map conSz) : msum q = msum a := by
  have : q.map mcN = a.map mcN := by
    have e : ∀ c : Con, mcN c = (fun (z : Nat × Nat × List Nat) => 2 + z.1 + z.2.1 + z.2.2.sum) (conSz c) := fun c => rfl
    have e2 : mcN = (fun (z : Nat × Nat × List Nat) => 2 + z.1 + z.2.1 + z.2.2.sum) ∘ conSz := funext e
    rw [e2, ← List.map_map, ← List.map_map, l]
  simp only [msum, this]
theorem msum_step {xs : List Con} {k : Nat} (h : k < xs.length) : msum (xs.take (k + 1)) = msum (xs.take k) + mcN (xs.getD k nilCon) := by
  rw [take_succ_getD nilCon h]; simp [msum]
theorem msum_le (xs : List Con) (k : Nat) : msum (xs.take k) ≤ msum xs := by simp only [msum, List.map_take]; exact sum_take_le _ _
theorem msum_csum (cs : List Con) : msum cs ≤ 2 * cs.length + csum cs := by
  induction cs with
  | nil => simp [msum]
  | cons c cs ih =>
    simp only [msum, csum, List.map_cons, List.sum_cons, List.length_cons] at *
    have : mcN c ≤ 2 + conN c := by simp only [mcN, conN]; omega
    omega
theorem SmallM.marks {m : Mod} (h : SmallM m) : m.doms.length + msum m.cons ≤ 4194304 := by
  have := msum_csum m.cons
  simp only [SmallM, modN] at h; omega
/-- The list while it is being marked, and behind it. -/
def markL (k : Int) (n : Nat) : List Int := (List.range n).map (fun (j : Nat) => k + (j : Int))
def markTo (k : Int) (a : List Int) (i : Nat) : List Int := markL k i ++ a.drop i
theorem mark_len {k : Int} {a : List Int} {i : Nat} (h : i ≤ a.length) : (markTo k a i).length = a.length := by simp [markTo, markL]; omega
theorem mark_step {k l : Int} {a : List Int} {i : Nat} (e : l = k + (i : Int)) (h : i < a.length) : (markTo k a i).set i l = markTo k a (i + 1) := by
  subst e
  unfold markTo
  rw [List.set_append_right _ _ (by simp [markL])]
  have e1 : i - (markL k i).length = 0 := by simp [markL]
  rw [e1, List.drop_eq_getElem_cons h, List.set_cons_zero]
  simp [markL, List.range_succ]
theorem mark_end {k : Int} {a : List Int} {i : Nat} (h : i = a.length) : markTo k a i = markL k a.length := by subst h; simp [markTo]
end
section
def ByteC (vs : List Value) (n : Int) : Prop := vs = [.int .u8 n] ∧ 0 ≤ n ∧ n < 256
abbrev Bytes (H : Hp) (v : Value) (xs : List Int) : Prop := Sl H 1 ByteC v xs
section ops
variable {C : Cx} {dr : Bool} {ops : Array Oper} {Q : Post} {ims L : List Hp} {G : Env} {fl : List Bool} {rest : List Oper} {d ty : Nat} {pos : String} {af : Array Edge}
theorem kl_cvi {T T' : Nat} {m : Int} {κ2 : IntKind} {x : Operand} [hT : IsInt C.P T' .i64] [hS : IsInt C.P T κ2] (hx : ev G x = some (.int κ2 m)) (hb : -9223372036854775808 ≤ m ∧ m ≤ 9223372036854775807) (h : KL C dr ops Q ims L fl.tail rest ((d, .int .i64 m) :: G)) (hlt : Nat.blt d C.n = true := by rfl) :
    KL C dr ops Q ims L fl (⟨some d, .convert T T' x, ty, pos, af, none⟩ :: rest) G := kl_cv hx (by
      have e : IntKind.i64.wrap m = m := by rw [IntKind.wrap_i64]; omega
      rw [e]; exact h) hlt
end ops
theorem tmod_in {m k : Int} (hm : 0 ≤ m) (hk : 0 < k) : 0 ≤ m.tmod k ∧ m.tmod k < k := ⟨Int.tmod_nonneg _ hm, Int.tmod_lt_of_pos _ hk⟩
/-! A struct that is written out, its parts of one cell each. -/
class StrC (P : Program) (T : Nat) (offs szs : outParam (List Nat)) (zs : outParam (List Value)) : Prop where
  z : (P.info? T).map (·.zero) = some (some (.agg zs.toArray))
  u : ∃ fs : Array Field, P.underlying T = some (.struct fs) ∧ ∀ w, (fs.mapM (fun f => do pure (f.offset, ← Go.sizeOf f.type) : Field → Sem (Nat × Nat))).run P w = .ok (offs.zip szs).toArray w
theorem places2 {P : Program} {t0 o0 s0 t1 o1 s1 : Nat} {f0 f1 : Field} (e0 : f0.type = t0) (e1 : f1.type = t1) (p0 : f0.offset = o0) (p1 : f1.offset = o1) (h0 : (P.info? t0).map (·.size) = some s0) (h1 : (P.info? t1).map (·.size) = some s1) (w : World) :
    ((#[f0, f1] : Array Field).mapM (fun f => do pure (f.offset, ← Go.sizeOf f.type) : Field → Sem (Nat × Nat))).run P w = .ok #[(o0, s0), (o1, s1)] w := by
  subst e0 p0 e1 p1
  simp [sizeOf_run h0 w, sizeOf_run h1 w]
theorem places3 {P : Program} {t0 o0 s0 t1 o1 s1 t2 o2 s2 : Nat} {f0 f1 f2 : Field} (e0 : f0.type = t0) (e1 : f1.type = t1) (e2 : f2.type = t2) (p0 : f0.offset = o0) (p1 : f1.offset = o1) (p2 : f2.offset = o2) (h0 : (P.info? t0).map (·.size) = some s0) (h1 : (P.info? t1).map (·.size) = some s1) (h2 : (P.info? t2).map (·.size) = some s2) (w : World) :
    ((#[f0, f1, f2] : Array Field).mapM (fun f => do pure (f.offset, ← Go.sizeOf f.type) : Field → Sem (Nat × Nat))).run P w = .ok #[(o0, s0), (o1, s1), (o2, s2)] w := by
  subst e0 p0 e1 p1 e2 p2
  simp [sizeOf_run h0 w, sizeOf_run h1 w, sizeOf_run h2 w]
theorem places4 {P : Program} {t0 o0 s0 t1 o1 s1 t2 o2 s2 t3 o3 s3 : Nat} {f0 f1 f2 f3 : Field} (e0 : f0.type = t0) (e1 : f1.type = t1) (e2 : f2.type = t2) (e3 : f3.type = t3) (p0 : f0.offset = o0) (p1 : f1.offset = o1) (p2 : f2.offset = o2) (p3 : f3.offset = o3) (h0 : (P.info? t0).map (·.size) = some s0) (h1 : (P.info? t1).map (·.size) = some s1) (h2 : (P.info? t2).map (·.size) = some s2) (h3 : (P.info? t3).map (·.size) = some s3) (w : World) :
    ((#[f0, f1, f2, f3] : Array Field).mapM (fun f => do pure (f.offset, ← Go.sizeOf f.type) : Field → Sem (Nat × Nat))).run P w = .ok #[(o0, s0), (o1, s1), (o2, s2), (o3, s3)] w := by
  subst e0 p0 e1 p1 e2 p2 e3 p3
  simp [sizeOf_run h0 w, sizeOf_run h1 w, sizeOf_run h2 w, sizeOf_run h3 w]
theorem places5 {P : Program} {t0 o0 s0 t1 o1 s1 t2 o2 s2 t3 o3 s3 t4 o4 s4 : Nat} {f0 f1 f2 f3 f4 : Field} (e0 : f0.type = t0) (e1 : f1.type = t1) (e2 : f2.type = t2) (e3 : f3.type = t3) (e4 : f4.type = t4) (p0 : f0.offset = o0) (p1 : f1.offset = o1) (p2 : f2.offset = o2) (p3 : f3.offset = o3) (p4 : f4.offset = o4) (h0 : (P.info? t0).map (·.size) = some s0) (h1 : (P.info? t1).map (·.size) = some s1) (h2 : (P.info? t2).map (·.size) = some s2) (h3 : (P.info? t3).map (·.size) = some s3) (h4 : (P.info? t4).map (·.size) = some s4) (w : World) :
    ((#[f0, f1, f2, f3, f4] : Array Field).mapM (fun f => do pure (f.offset, ← Go.sizeOf f.type) : Field → Sem (Nat × Nat))).run P w = .ok #[(o0, s0), (o1, s1), (o2, s2), (o3, s3), (o4, s4)] w := by
  subst e0 p0 e1 p1 e2 p2 e3 p3 e4 p4
  simp [sizeOf_run h0 w, sizeOf_run h1 w, sizeOf_run h2 w, sizeOf_run h3 w, sizeOf_run h4 w]
def bput (offs szs : List Nat) : List Value → List (Nat × Value) → Option (List Value)
  | cs, [] => some cs
  | cs, (i, v) :: r => match (offs.zip szs)[i]? with
    | some (o, 1) => bif Nat.blt o cs.length then bput offs szs (cs.set o v) r else none
    | _ => none
theorem fill_bput {offs szs : List Nat} : ∀ {pv : List (Nat × Value)} {cs us : List Value}, (∀ p ∈ pv, p.2.cells = #[p.2]) → bput offs szs cs pv = some us → Instr.fill ((offs.zip szs).toArray[·]?) cs.toArray pv = some us.toArray
  | [], cs, us, _, h => by
    simp only [bput, Option.some.injEq] at h
    subst h; rfl
  | (i, v) :: r, cs, us, hu, h => by
    simp only [bput] at h
    split at h
    · rename_i o hi
      cases hb : Nat.blt o cs.length with
      | false => rw [hb] at h; cases h
      | true =>
        rw [hb] at h
        have ho : o < cs.length := by simpa [Nat.blt_eq] using hb
        have hv : v.cells = #[v] := hu _ (.head _)
        have ih := fill_bput (fun p hp => hu p (.tail _ hp)) h
        unfold Instr.fill
        simp only [List.getElem?_toArray, hi, hv]
        simp only [List.size_toArray, List.length_cons, List.length_nil, ne_eq, not_true_eq_false, decide_false, Bool.false_or]
        rw [if_neg (by simp; omega)]
        have e : (#[v].zipIdx.foldl (fun cs (x : Value × Nat) => cs.setIfInBounds (o + x.2) x.1) cs.toArray) = (cs.set o v).toArray := by
          simp
        have e2 : (#[v].zipIdx.foldl (fun cs (c, j) => cs.setIfInBounds (o + j) c) cs.toArray) = (cs.set o v).toArray := e
        rw [e2]; simp only [List.getElem?_toArray] at ih; exact ih
    · cases h
theorem cp_nil : ∀ p ∈ ([] : List (Nat × Value)), p.2.cells = #[p.2] := fun _ h => by cases h
theorem cp {i : Nat} {v : Value} {r : List (Nat × Value)} (h : v.cells = #[v]) (t : ∀ p ∈ r, p.2.cells = #[p.2]) : ∀ p ∈ (i, v) :: r, p.2.cells = #[p.2] := fun p hp => by
  cases hp with
  | head => exact h
  | tail _ hp => exact t p hp
section blds
variable {C : Cx} {dr : Bool} {ops : Array Oper} {Q : Post} {ims L : List Hp} {G : Env} {fl : List Bool} {rest : List Oper} {d ty : Nat} {pos : String} {af : Array Edge}
theorem kl_bd {T : Nat} {offs szs : List Nat} {zs us : List Value} [hS : StrC C.P T offs szs zs] {ps : List (Nat × Operand)} {pv : List (Nat × Value)} (hp : evp G ps = some pv) (hu : ∀ p ∈ pv, p.2.cells = #[p.2]) (hb : bput offs szs zs pv = some us)
    (h : KL C dr ops Q ims L fl.tail rest ((d, .agg us.toArray) :: G)) (hlt : Nat.blt d C.n = true := by rfl) : KL C dr ops Q ims L fl (⟨some d, .build T ps.toArray, ty, pos, af, none⟩ :: rest) G :=
  kl_y (fun r w hr _ => by
    obtain ⟨fs, h1, h2⟩ := hS.u
    have hz := zeroValue_run (P := C.P) hS.z w
    have hff := fill_bput hu hb
    simp only [execOp, Instr.build, Sem.run_bind, List.map_toArray, evp_run hr hp, hz, run_underlying h1, Result.andThen_ok, h2 w]
    have e : (Value.agg zs.toArray).cells = zs.toArray := rfl
    rw [e, hff]
    rfl) h hlt
theorem fill_five {a b c d e : Value} : ∀ {cells : Array Value}, cells.size = 5 → Instr.fill (fun i => some (i * 5, 5)) cells [(0, .agg #[a, b, c, d, e])] = some #[a, b, c, d, e]
  | ⟨[c0, c1, c2, c3, c4]⟩, _ => rfl
/-- One constraint in a list that is written out: fixed memory. -/
theorem kl_bsK {T E by' : Nat} {z a b c e f : Value} [hT : IsSlice C.P T E 5 by' z] {ps : List (Nat × Operand)} (hp : evp G ps = some [(0, .agg #[a, b, c, e, f])])
    (h : ∀ v H, Fr C.B H → Rd H 5 v 1 [a, b, c, e, f] → KL C dr ops Q (H :: ims) L fl.tail rest ((d, v) :: G)) (hlt : Nat.blt d C.n = true := by rfl) (hfl : fl.headD false = false := by rfl) :
    KL C dr ops Q ims L fl (⟨some d, .buildSlice T 1 ps.toArray, ty, pos, af, none⟩ :: rest) G := by
  refine kl_newI (v := fun b => .slice (some ⟨b, 0, none⟩) 1 1) (o := .cells #[a, b, c, e, f] E) (fun r w hr => ?_) (fun q hb => h _ _ (fr_sing hb) ?_) hlt hfl
  · have hps := evp_run hr hp
    have hz := hT.z
    have hzv : (zeroValue E).run C.P w = .ok z w := zeroValue_run (by obtain ⟨i, hi, hz', _⟩ := hT.info; simp [hi, hz']) w
    have key : (Instr.buildSlice T 1 [((0 : Nat), Value.agg #[a, b, c, e, f])].toArray).run C.P w = .ok (.slice (some ⟨w.heap.size, 0, none⟩) 1 1) (w.alloc (.cells #[a, b, c, e, f] E)) := by
      have hff := fill_five (a := a) (b := b) (c := c) (d := e) (e := f) (cells := (Array.range (1 * 5)).map (z.cells[· % z.cells.size]!)) (by simp)
      simp only [Instr.buildSlice, Sem.run_bind, run_underlying hT.u, Result.andThen_ok, sizeOf_run hT.size]
      rw [if_neg (by decide), if_neg (by decide)]
      simp only [Sem.run_bind, hzv, Result.andThen_ok, Sem.run_pure, hff]
      rfl
    simp only [execOp, Sem.run_bind, List.map_toArray, hps, key, Result.andThen_ok, Sem.run_pure]
  · exact ⟨some ⟨q, 0, none⟩, 1, rfl, by simp, fun j u hj => ⟨q, 0, #[a, b, c, e, f], E, (0, 0), rfl, by simp, by simpa using hj⟩⟩
/-- x[:i] of what is owned. -/
theorem kl_slTakeL {A : Type} {R : Rel A} {E k : Nat} {H K : Hp} {v : Value} {xs : List A} {x y : Operand} {i : Nat} {T k' by' : Nat} {z : Value} [hT : IsSlice C.P T E k' by' z]
    (hx : ev G x = some v) (hy : ev G y = some (.int .i64 (i : Int))) (hv : OwnL E k H K R v xs) (h1 : i ≤ xs.length)
    (h : ∀ u, OwnL E k H K R u (xs.take i) → KL C dr ops Q ims L fl.tail rest ((d, u) :: G)) (hlt : Nat.blt d C.n = true := by rfl) :
    KL C dr ops Q ims L fl (⟨some d, .slice T x none (some y) none, ty, pos, af, none⟩ :: rest) G := by
  obtain ⟨cs, ⟨hl, hb, ho⟩, hR⟩ := hv
  have hik : i * k ≤ xs.length * k := Nat.mul_le_mul_right _ h1
  have hRR : ∀ j (hj : j < (xs.take i).length), R K (((cs.take (i * k)).drop (j * k)).take k) (xs.take i)[j] := fun j hj => by
    have hj' : j < i := by simp at hj; omega
    have hjk : (j + 1) * k ≤ i * k := Nat.mul_le_mul_right _ hj'
    rw [Nat.add_mul] at hjk
    have h3 := hR j (by omega)
    have e : ((cs.take (i * k)).drop (j * k)).take k = (cs.drop (j * k)).take k := by
      rw [List.drop_take, List.take_take]
      congr 1; omega
    rw [e]
    simpa using h3
  have hlen : (xs.take i).length = i := by simp; omega
  rcases ho with ⟨a0, rfl, h0, rfl⟩ | ⟨b, c, cur, rfl, h2, h3, h4, h5, rfl⟩
  · have hi0 : i = 0 := by omega
    subst hi0
    refine kl_y (v := .slice a0 0 0) (fun r w hr _ => ?_) (h _ ⟨cs.take (0 * k), ⟨by simp, by simp, .inl ⟨a0, rfl, by simp, rfl⟩⟩, hRR⟩) hlt
    simp only [execOp, Sem.run_bind, hr _ _ hx, hr _ _ hy, Option.map_some, Option.map_none]
    cases a0 with
    | none => simp [Instr.sliceAt, run_underlying hT.u, Instr.slice, Instr.sliceBounds, Instr.sliceBound, asIntOf, go_sem, sizeOf_run hT.size]
    | some a => simp [Instr.sliceAt, run_underlying hT.u, Instr.slice, Instr.sliceBounds, Instr.sliceBound, asIntOf, go_sem, sizeOf_run hT.size, Addr.add]
  · refine kl_y (v := .slice (some ⟨b, 0, none⟩) i c) (fun r w hr _ => ?_) (h _ ⟨cs.take (i * k), ⟨by rw [hlen, List.length_take, hl]; omega, by rw [hlen]; omega, .inr ⟨b, c, cur, by rw [hlen], by omega, h3, h4, by rw [hlen, ← h5, List.take_take]; congr 1; omega, rfl⟩⟩, hRR⟩) hlt
    simp only [execOp, Sem.run_bind, hr _ _ hx, hr _ _ hy, Option.map_some, Option.map_none]
    have hic : i ≤ c := by omega
    have n1 : ¬ (c < i) := by omega
    simp [Instr.sliceAt, run_underlying hT.u, Instr.slice, Instr.sliceBounds, Instr.sliceBound, asIntOf, go_sem, sizeOf_run hT.size, Addr.add, hic, n1]
theorem kt_c (k1 k2 k3 : Nat) {fx : Nat → Bool} {LS : List Hp} {fuel : Nat} {listed : Array Bool} {o1 o2 o3 : Oper} (ho1 : ops[k1]? = some o1) (ho2 : ops[k2]? = some o2) (ho3 : ops[k3]? = some o3) (hB : (Region.ready .any ops listed == [k1, k2, k3]) = true)
    (h1 : KL C true ops (QA C ops Q fx LS k1 fuel (listed.setIfInBounds k1 true) ims) ims L [false] [o1] G)
    (h2 : KL C true ops (QA C ops Q fx LS k2 fuel (listed.setIfInBounds k2 true) ims) ims L [false] [o2] G)
    (h3 : KL C true ops (QA C ops Q fx LS k3 fuel (listed.setIfInBounds k3 true) ims) ims L [false] [o3] G) : KT C ops Q fx LS (fuel + 1) listed ims L G := fun a w hf hs hdc => by
  have hr : Region.ready .any ops listed = [k1, k2, k3] := by simpa using hB
  refine ⟨fun h' => absurd (hr ▸ h') (by simp), fun i hi => ?_⟩
  have hd2 := hdc.set hi
  rw [hr] at hi
  simp only [List.mem_cons, List.not_mem_nil, or_false] at hi
  rcases hi with rfl | rfl | rfl
  · exact wpOp_of ho1 hd2 h1 hf hs
  · exact wpOp_of ho2 hd2 h2 hf hs
  · exact wpOp_of ho3 hd2 h3 hf hs
end blds
/-! A drawn region whose ways come together at its end. -/
instance {α : Type} (l m n : List α) [h : AllIn l n] [k : AllIn m n] : AllIn (l ++ m) n := ⟨fun a ha => (List.mem_append.1 ha).elim (h.all a) (k.all a)⟩
theorem kq_normI {C : Cx} {ims imr L : List Hp} {G : Env} {p : Act → World → Prop} [hn : NormL ims imr] (h : KQ C imr L G p) : KQ C ims L G p := by have e := hn.e; subst e; exact h
/-- Small models. -/
structure ConSm (n : Nat) (c : Con) : Prop where
  v1 : 1 ≤ c.vars.length
  v : c.vars.length ≤ n
  a : c.args.length ≤ n
  r : c.rows.length ≤ n
  rr : ∀ r ∈ c.rows, r.length ≤ 12
structure ModSm (n : Nat) (m : Mod) : Prop where
  d1 : 1 ≤ m.doms.length
  d : m.doms.length ≤ 4
  c : m.cons.length ≤ n
  cc : ∀ c ∈ m.cons, ConSm n c
theorem ConSm.mono {n k : Nat} {c : Con} (h : ConSm n c) (hn : n ≤ k) : ConSm k c := ⟨h.v1, Nat.le_trans h.v hn, Nat.le_trans h.a hn, Nat.le_trans h.r hn, h.rr⟩
theorem ModSm.mono {n k : Nat} {m : Mod} (h : ModSm n m) (hn : n ≤ k) : ModSm k m := ⟨h.d1, h.d, Nat.le_trans h.c hn, fun c hc => (h.cc c hc).mono hn⟩
end
section
section ops
variable {C : Cx} {dr : Bool} {ops : Array Oper} {Q : Post} {ims L : List Hp} {G : Env} {fl : List Bool} {rest : List Oper} {d ty : Nat} {pos : String} {af : Array Edge}
theorem evs_map {G : Env} {r : Operand → Value} (hr : ∀ x v, ev G x = some v → r x = v) : ∀ {xs : List Operand} {vs : List Value}, evs G xs = some vs → xs.map r = vs := by
  intro xs
  induction xs with
  | nil => intro vs h; simp [evs] at h; simp [h]
  | cons x t ih =>
    intro vs h
    simp only [evs] at h
    split at h
    · rename_i v ws h1 h2
      simp at h; subst h
      simp [hr _ _ h1, ih h2]
    · cases h
theorem kl_mkfB {f : Fn} {bs xs : List Operand} {us vs : List Value} (hb : evs G bs = some us) (hx : evs G xs = some vs) (h : KL C dr ops Q ims L fl.tail rest ((d, .func f us.toArray vs.toArray) :: G)) (hlt : Nat.blt d C.n = true := by rfl) :
    KL C dr ops Q ims L fl (⟨some d, .makeFunc f bs.toArray xs.toArray, ty, pos, af, none⟩ :: rest) G :=
  kl_y (fun r w hr hs => by
    simp [execOp, Instr.makeFunc, evs_map hr hx, evs_map hr hb]) h hlt
theorem kl_callB {f : Operand} {xs : List Operand} {ats : Array Nat} {g : Nat} {bd cap : Array Value} {vs : List Value} {ims' : List Hp} {phi : Hp → Value → Prop} [hb : FnC C.P g]
    (hf : ev G f = some (.func (.func g) bd cap)) (ha : evs G xs = some vs) (hs : Spec C.P g (bd.toList ++ vs ++ cap.toList) ims' phi) [hi : AllGot ims' ims L]
    (h : ∀ v H, Fr C.B H → phi H v → KL C dr ops Q (H :: ims) L fl.tail rest ((d, v) :: G)) (hlt : Nat.blt d C.n = true := by rfl) (hfl : fl.headD false = false := by rfl) :
    KL C dr ops Q ims L fl (⟨some d, .call ⟨.value f, xs.toArray, ats⟩, ty, pos, af, none⟩ :: rest) G :=
  kl_act rfl hfl fun a w hF hS => by
    have hrun : (execOp a.eval ⟨some d, .call ⟨.value f, xs.toArray, ats⟩, ty, pos, af, none⟩).run C.P w = .ok (.enter g (bd.toList ++ vs ++ cap.toList).toArray) w := by
      have h1 : xs.map a.eval = vs := hF.evs ha
      simp only [execOp, resolve, hF.ev hf, Deferred.ofValue, Sem.run_bind, Sem.run_pure, Result.andThen_ok, invoke, List.map_toArray, h1]
      rw [hb.run]
      simp
    unfold Oper.wp
    rw [hrun]
    refine (hs w (fun H hH => hi.g hS H hH)).mono fun e w' he => ?_
    cases e with
    | returned v =>
      obtain ⟨h1, H, h2, h3, h4⟩ := he
      exact ⟨H :: ims, L, _, .inr (fun _ u hu => hu.weak (i := ⟨fun a ha => .tail _ ha⟩) slr9), hF.put (by simpa [Nat.blt_eq, Cx.m] using hlt),
        hS.pushIm h1 h2 h3.1, h v H ⟨fun b hb => Nat.le_trans hS.size (h3.1 b hb), h3.2⟩ h4⟩
    | panicked c => exact he
    | outgrown => exact he.elim
end ops
/-- Two owned heaplets are one. -/
theorem St.mrg {B : World} {X : Side} {ims L' : List Hp} {w : World} {K H : Hp} (h : St B X ims ([K, H] ++ L') w) : St B X ims (orHp K H :: L') w := by
  have hk := h.own K (.head _)
  have hh := h.own H (.tail _ (.head _))
  have hL : ∀ M ∈ L', M ∈ [K, H] ++ L' := fun M hM => .tail _ (.tail _ hM)
  have hnd := List.pairwise_cons.1 h.nd
  have hnd2 := List.pairwise_cons.1 hnd.2
  have hor : ∀ b, orHp K H b ≠ none → K b ≠ none ∨ H b ≠ none := fun b hb => by
    by_cases e : K b = none
    · right; intro e2; exact hb (by simp [orHp, e, e2])
    · exact .inl e
  have hap : ∀ M : Hp, Apart K M → Apart H M → Apart (orHp K H) M := fun M a c b => by
    rcases a b with e | e
    · rcases c b with e' | e'
      · exact .inl (by simp [orHp, e, e'])
      · exact .inr e'
    · exact .inr e
  refine h.turn (Nat.le_refl _) (fun _ _ _ => rfl) (Io.refl _) (fun b hb => ?_) (fun b hb hx => ?_) (fun I hI => h.im I hI) (fun M hM => ?_) ?_
  · left
    rcases hb with ⟨M, hM, hb⟩ | hb
    · cases hM with
      | head => rcases hor b hb with e | e
                · exact .inl ⟨K, .head _, e⟩
                · exact .inl ⟨H, .tail _ (.head _), e⟩
      | tail _ hM => exact .inl ⟨M, hL M hM, hb⟩
    · exact .inr hb
  · exact h.ext b hb hx
  · cases hM with
    | head => exact ⟨agree_or hk.1 hh.1, fun b hb => (hor b hb).elim (hk.2.1 b) (hh.2.1 b), fun I hI => hap I (hk.2.2 I hI) (hh.2.2 I hI)⟩
    | tail _ hM => exact h.own M (hL M hM)
  · exact List.pairwise_cons.2 ⟨fun M hM => hap M (hnd.1 M (.tail _ hM)) (hnd2.1 M hM), hnd2.2⟩
theorem kq_mrg {C : Cx} {ims L : List Hp} {G : Env} {p : Act → World → Prop} (K H : Hp) {L' : List Hp} [t : TakeL [K, H] L L'] (h : KQ C ims (orHp K H :: L') G p) : KQ C ims L G p :=
  fun a w hf hs => h a w hf (hs.perm t.t).mrg
theorem liq_or {H K : Hp} (h : Liq H) (k : Liq K) : Liq (orHp H K) := fun b o hb => by
  simp only [orHp] at hb
  cases e : H b with
  | none => rw [e] at hb; exact k b o (by simpa using hb)
  | some x => rw [e] at hb; exact h b o (by rw [e]; simpa using hb)
theorem liq_no : Liq noHp := fun b o hb => by cases hb
theorem OwnL.liq {A : Type} {E k : Nat} {H K : Hp} {R : Rel A} {v : Value} {xs : List A} (h : OwnL E k H K R v xs) : Liq H := by
  obtain ⟨cs, ⟨_, _, h3⟩, _⟩ := h
  rcases h3 with ⟨_, _, _, rfl⟩ | ⟨b, c, cur, _, _, _, _, _, rfl⟩
  · exact liq_no
  · exact liq_sing
/-- What is owned by a call that writes nothing of its caller's is new. -/
theorem kl_fr {P : Program} {n : Nat} {B : World} {lo : Bool} {df : List Deferred} {R : Option Nat} {dr : Bool} {ops : Array Oper} {Q : Post} {ims L : List Hp} {G : Env} {fl : List Bool} {rest : List Oper} (H : Hp) [i : In H L] (hl : Liq H)
    (h : Fr B H → KL ⟨P, n, B, noS, lo, df, R⟩ dr ops Q ims L fl rest G) : KL ⟨P, n, B, noS, lo, df, R⟩ dr ops Q ims L fl rest G := fun a w hf hs =>
  h ⟨fun b hb => ((hs.own H i.mem).2.1 b hb).resolve_right (fun h => h.elim), hl⟩ a w hf hs
theorem At.take {H : Hp} {p : Value} {vs : List Value} (k : Nat) (h : At H p vs) : At H p (vs.take k) := by
  obtain ⟨b, o, cs, T, fz, h1, h2, h3⟩ := h
  refine ⟨b, o, cs, T, fz, h1, h2, fun j u hj => h3 j u ?_⟩
  rw [List.getElem?_take] at hj
  split at hj
  · exact hj
  · cases hj
/-- A struct (a part, it may be) of what is owned. -/
theorem kl_ldSL {C : Cx} {dr : Bool} {ops : Array Oper} {Q : Post} {ims L : List Hp} {G : Env} {fl : List Bool} {rest : List Oper} {d ty : Nat} {pos : String} {af : Array Edge} {H : Hp} {p : Value} {vs : List Value} {x : Operand} {T k : Nat} [hT : AggC C.P T k] [hi : In H L] (hx : ev G x = some p) (hp : At H p vs) (hk : Nat.beq vs.length k = true)
    (h : KL C dr ops Q ims L fl.tail rest ((d, .agg vs.toArray) :: G)) (hlt : Nat.blt d C.n = true := by rfl) (hlo : C.lo = false := by rfl) : KL C dr ops Q ims L fl (⟨some d, .load T x, ty, pos, af, none⟩ :: rest) G :=
  kl_y (fun r w hr hs => by
    rw [Cx.whi hlo] at hs
    have hat := hp
    obtain ⟨b, o, cs, T', fz, rfl, _⟩ := hp
    have hc := loadCells_at (P := C.P) (hs.own H hi.mem).1 hat
    rw [Nat.eq_of_beq_eq_true hk] at hc
    have h1 : (Instr.loadAt T (.pointer (some ⟨b, o, none⟩))).run C.P w = .ok (.agg vs.toArray) w := by
      simp only [Instr.loadAt, Instr.sureAddr, loadVar, Sem.run_bind, Sem.run_pure, Result.andThen_ok, AggC.run, sizeOf_run hT.i, hc, if_true]
    simp only [execOp, Sem.run_bind, hr _ _ hx, h1, Result.andThen_ok, Sem.run_pure]) h hlt
/-! Structs whose parts are structs. -/
def fillC (place : Nat → Option (Nat × Nat)) (cells : Array Value) : List (Nat × Array Value) → Option (Array Value)
  | [] => some cells
  | (i, a) :: rest =>
    match place i with
    | none => none
    | some (off, size) =>
      if a.size ≠ size || off + a.size > cells.size then none
      else fillC place (a.zipIdx.foldl (fun cs (c, j) => cs.setIfInBounds (off + j) c) cells) rest
theorem fill_c (place : Nat → Option (Nat × Nat)) : ∀ (pv : List (Nat × Value)) (cells : Array Value), Instr.fill place cells pv = fillC place cells (pv.map (fun p => (p.1, p.2.cells)))
  | [], _ => rfl
  | (i, v) :: r, cells => by
    simp only [Instr.fill, fillC, List.map_cons]
    cases place i with
    | none => rfl
    | some q =>
      obtain ⟨o, s⟩ := q
      simp only
      split
      · rfl
      · exact fill_c place r _
def fillLs (offs szs : List Nat) : List Value → List (Nat × List Value) → Option (List Value)
  | cs, [] => some cs
  | cs, (i, us) :: r => match (offs.zip szs)[i]? with
    | some (o, s) => bif Nat.beq us.length s && Nat.ble (o + us.length) cs.length then fillLs offs szs (cs.take o ++ us ++ cs.drop (o + us.length)) r else none
    | none => none
theorem fold_put (o : Nat) : ∀ (us cs : List Value) (k : Nat), o + k + us.length ≤ cs.length → (us.zipIdx k).foldl (fun (cs : Array Value) (x : Value × Nat) => cs.setIfInBounds (o + x.2) x.1) cs.toArray = (cs.take (o + k) ++ us ++ cs.drop (o + k + us.length)).toArray
  | [], cs, k, _ => by simp
  | u :: us, cs, k, h => by
    simp only [List.length_cons] at h
    rw [List.zipIdx_cons, List.foldl_cons]
    have e : cs.toArray.setIfInBounds (o + k) u = (cs.set (o + k) u).toArray := by simp
    rw [e, fold_put o us (cs.set (o + k) u) (k + 1) (by rw [List.length_set]; omega)]
    congr 1
    have h1 : (cs.set (o + k) u).take (o + (k + 1)) = cs.take (o + k) ++ [u] := by
      rw [← Nat.add_assoc, take_succ_getD undef (by rw [List.length_set]; omega), List.take_set_of_le (Nat.le_refl _)]
      congr 2
      rw [List.getD_eq_getElem?_getD, List.getElem?_set_self (by omega)]; rfl
    have h2 : (cs.set (o + k) u).drop (o + (k + 1) + us.length) = cs.drop (o + k + (u :: us).length) := by
      rw [List.drop_set_of_lt (by omega)]
      congr 1; simp only [List.length_cons]; omega
    rw [h1, h2]; simp
theorem fill_ls {offs szs : List Nat} : ∀ {pc : List (Nat × List Value)} {cs us : List Value}, fillLs offs szs cs pc = some us → fillC ((offs.zip szs).toArray[·]?) cs.toArray (pc.map (fun p => (p.1, p.2.toArray))) = some us.toArray
  | [], cs, us, h => by
    simp only [fillLs, Option.some.injEq] at h
    subst h; rfl
  | (i, vs) :: r, cs, us, h => by
    simp only [fillLs] at h
    split at h
    · rename_i o s hi
      cases hb : (Nat.beq vs.length s && Nat.ble (o + vs.length) cs.length) with
      | false => rw [hb] at h; cases h
      | true =>
        rw [hb] at h
        simp only [Bool.and_eq_true] at hb
        have h1 := Nat.eq_of_beq_eq_true hb.1
        have h2 := Nat.le_of_ble_eq_true hb.2
        have ih := fill_ls h
        simp only [List.map_cons, fillC, List.getElem?_toArray, hi]
        rw [if_neg (by simp; omega)]
        have e : vs.toArray.zipIdx.foldl (fun cs (x : Value × Nat) => cs.setIfInBounds (o + x.2) x.1) cs.toArray = (cs.take o ++ vs ++ cs.drop (o + vs.length)).toArray := by
          have := fold_put o vs cs 0 (by omega)
          simpa using this
        have e2 : vs.toArray.zipIdx.foldl (fun cs (c, j) => cs.setIfInBounds (o + j) c) cs.toArray = (cs.take o ++ vs ++ cs.drop (o + vs.length)).toArray := e
        rw [e2]; simp only [List.getElem?_toArray] at ih; exact ih
    · cases h
theorem cpa_nil : ([] : List (Nat × Value)).map (fun p => (p.1, p.2.cells)) = ([] : List (Nat × List Value)).map (fun p => (p.1, p.2.toArray)) := rfl
theorem cpa {i : Nat} {v : Value} {a : List Value} {r : List (Nat × Value)} {t : List (Nat × List Value)} (h : v.cells = a.toArray) (k : r.map (fun p => (p.1, p.2.cells)) = t.map (fun p => (p.1, p.2.toArray))) : ((i, v) :: r).map (fun p => (p.1, p.2.cells)) = ((i, a) :: t).map (fun p => (p.1, p.2.toArray)) := by
  simp only [List.map_cons]; rw [k, h]
theorem kl_bdA {C : Cx} {dr : Bool} {ops : Array Oper} {Q : Post} {ims L : List Hp} {G : Env} {fl : List Bool} {rest : List Oper} {d ty : Nat} {pos : String} {af : Array Edge} {T : Nat} {offs szs : List Nat} {zs : List Value} (pc : List (Nat × List Value)) (us : List Value) [hS : StrC C.P T offs szs zs] {ps : List (Nat × Operand)} {pv : List (Nat × Value)} (hp : evp G ps = some pv) (hu : pv.map (fun p => (p.1, p.2.cells)) = pc.map (fun p => (p.1, p.2.toArray))) (hb : fillLs offs szs zs pc = some us)
    (h : KL C dr ops Q ims L fl.tail rest ((d, .agg us.toArray) :: G)) (hlt : Nat.blt d C.n = true := by rfl) : KL C dr ops Q ims L fl (⟨some d, .build T ps.toArray, ty, pos, af, none⟩ :: rest) G :=
  kl_y (fun r w hr _ => by
    obtain ⟨fs, h1, h2⟩ := hS.u
    have hz := zeroValue_run (P := C.P) hS.z w
    have hff : Instr.fill ((offs.zip szs).toArray[·]?) zs.toArray pv = some us.toArray := by rw [fill_c, hu]; exact fill_ls hb
    simp only [execOp, Instr.build, Sem.run_bind, List.map_toArray, evp_run hr hp, hz, run_underlying h1, Result.andThen_ok, h2 w]
    have e : (Value.agg zs.toArray).cells = zs.toArray := rfl
    rw [e, hff]
    rfl) h hlt
end
section

end
section
section ops
variable {C : Cx} {dr : Bool} {ops : Array Oper} {Q : Post} {ims L : List Hp} {G : Env} {fl : List Bool} {rest : List Oper} {d ty : Nat} {pos : String} {af : Array Edge}
variable {A : Type} {R : Rel A} {E k : Nat} {H K : Hp} {v : Value} {xs : List A} {x y : Operand} {T k' by' : Nat} {z : Value}
/-- An empty literal slice of elements of k cells. -/
theorem kl_bs0k (R : Rel A) {ps : List (Nat × Operand)} [hT : IsSlice C.P T E k by' z] (hp : evp G ps = some [])
    (h : ∀ v H, Fr C.B H → OwnL E k H K R v [] → KL C dr ops Q ims (H :: L) fl.tail rest ((d, v) :: G)) (hlt : Nat.blt d C.n = true := by rfl) (hfl : fl.headD false = false := by rfl) :
    KL C dr ops Q ims L fl (⟨some d, .buildSlice T 0 ps.toArray, ty, pos, af, none⟩ :: rest) G := by
  refine kl_new (v := fun b => .slice (some ⟨b, 0, none⟩) 0 0) (o := .cells #[] E) (fun r w hr => ?_) (fun b hb => h _ _ (fr_sing hb) ⟨[], ⟨by simp, by simp, .inr ⟨b, 0, #[], rfl, Nat.le_refl _, by simp [maxLen], by simp, by simp, rfl⟩⟩, fun i hi => absurd hi (Nat.not_lt_zero i)⟩) hlt hfl
  have hps := evp_run hr hp
  have key : (Instr.buildSlice T 0 ([] : List (Nat × Value)).toArray).run C.P w = .ok (.slice (some ⟨w.heap.size, 0, none⟩) 0 0) (w.alloc (.cells #[] E)) := by
    simp [Instr.buildSlice, run_underlying hT.u, sizeOf_run hT.size, Instr.fill, newRow, Array.range]
    refine congrArg (fun x => w.alloc (.cells x E)) ?_
    apply Array.eq_empty_of_size_eq_zero; simp
  simp only [execOp, Sem.run_bind, List.map_toArray, hps, key, Result.andThen_ok, Sem.run_pure]
end ops
end
section
class Enc {A : Type} (enc : A → Value) : Prop where
  one : ∀ a, (enc a).oneCell' = true
  cells : ∀ a, (enc a).cells = [enc a].toArray
def encB (b : Bool) : Value := .bool b
def encI (n : Int) : Value := .int .i64 n
instance : Enc encB := ⟨fun _ => rfl, fun _ => rfl⟩
instance : Enc encI := ⟨fun _ => rfl, fun _ => rfl⟩
/-- u is a row that lies in the block b of K, from its head on. -/
def BlkR {A : Type} (E : Nat) (enc : A → Value) (K : Hp) (b : Nat) (xs : List A) (u : Value) : Prop :=
  ∃ c cur, u = .slice (some ⟨b, 0, none⟩) xs.length c ∧ xs.length ≤ c ∧ c ≤ maxLen ∧ c ≤ cur.size ∧ xs.length ≤ 140737488355328 ∧ cur.toList.take xs.length = xs.map enc ∧ K b = some (.cells cur E (0, 0))
/-- v, whose cells H holds, is a list of rows (their slices: us), each in a block of its own in K. -/
structure Mat {A : Type} (EH E : Nat) (enc : A → Value) (H K : Hp) (v : Value) (us : List Value) (xss : List (List A)) : Prop where
  hd : OwnS EH 1 H v xss.length us
  bs : ∃ bs : List Nat, bs.length = xss.length ∧ bs.Nodup ∧ ∀ i, i < xss.length → BlkR E enc K (bs.getD i 0) (xss.getD i []) (us.getD i undef)
  lq : Liq K
variable {A : Type} {enc : A → Value}
theorem Mat.ulen {EH E : Nat} {H K : Hp} {v : Value} {us : List Value} {xss : List (List A)} (h : Mat EH E enc H K v us xss) : us.length = xss.length := by have := h.hd.1; omega
theorem Mat.nil {EH E : Nat} {H : Hp} {v : Value} (h : OwnS EH 1 H v 0 []) : Mat EH E enc H noHp v [] [] := ⟨h, ⟨[], rfl, List.nodup_nil, fun i h => absurd h (Nat.not_lt_zero i)⟩, fun b o hb => by cases hb⟩
theorem BlkR.mono {E b : Nat} {K K' : Hp} {xs : List A} {u : Value} (h : BlkR E enc K b xs u) (hk : K' b = K b) : BlkR E enc K' b xs u := by
  obtain ⟨c, cur, h1, h2, h3, h4, h5, h6, h7⟩ := h
  exact ⟨c, cur, h1, h2, h3, h4, h5, h6, by rw [hk]; exact h7⟩
theorem blk_of {E : Nat} {K : Hp} {u : Value} {xs : List A} (h : OwnS E 1 K u xs.length (xs.map enc)) (h0 : 0 < xs.length) : ∃ b, BlkR E enc K b xs u ∧ K b ≠ none := by
  obtain ⟨h1, h2, h3⟩ := h
  rcases h3 with ⟨_, _, hn, _⟩ | ⟨b, c, cur, rfl, h4, h5, h6, h7, rfl⟩
  · omega
  · exact ⟨b, ⟨c, cur, rfl, h4, h5, by simpa using h6, h2, by simpa using h7, by simp⟩, by simp⟩
/-- A row of its own is put behind. -/
theorem Mat.push {EH E : Nat} {H H' K Hr : Hp} {v v' u : Value} {us : List Value} {xss : List (List A)} {r : List A} (h : Mat EH E enc H K v us xss) (ho : OwnS EH 1 H' v' (xss.length + 1) (us ++ [u])) (hr : OwnS E 1 Hr u r.length (r.map enc)) (h0 : 0 < r.length) (lr : Liq Hr) (ap : Apart K Hr) :
    Mat EH E enc H' (orHp K Hr) v' (us ++ [u]) (xss ++ [r]) := by
  obtain ⟨bs, h1, h2, h3⟩ := h.bs
  obtain ⟨b, hb, hbn⟩ := blk_of hr h0
  have hul := h.ulen
  have hK : ∀ q, Hr q ≠ none → K q = none := fun q hq => (ap q).resolve_right hq
  refine ⟨by simpa using ho, ⟨bs ++ [b], by simp [h1], ?_, fun i hi => ?_⟩, fun q o hq => ?_⟩
  · rw [List.nodup_append]
    refine ⟨h2, by simp, fun x hx y hy e => ?_⟩
    rw [List.mem_singleton] at hy
    subst hy e
    obtain ⟨i, hi, rfl⟩ := List.getElem_of_mem hx
    obtain ⟨c, cur, _, _, _, _, _, _, h9⟩ := h3 i (by omega)
    rw [List.getD_eq_getElem?_getD, List.getElem?_eq_getElem hi, Option.getD_some, hK _ hbn] at h9
    cases h9
  · simp only [List.length_append, List.length_singleton] at hi
    by_cases e : i < xss.length
    · have h4 := h3 i e
      have e1 : (bs ++ [b]).getD i 0 = bs.getD i 0 := by simp [List.getD, List.getElem?_append, h1, e]
      have e2 : (xss ++ [r]).getD i [] = xss.getD i [] := by simp [List.getD, List.getElem?_append, e]
      have e3 : (us ++ [u]).getD i undef = us.getD i undef := by simp [List.getD, List.getElem?_append, hul, e]
      rw [e1, e2, e3]
      obtain ⟨c, cur, q1, q2, q3, q4, q5, q6, q7⟩ := h4
      exact ⟨c, cur, q1, q2, q3, q4, q5, q6, by unfold orHp; rw [q7]; rfl⟩
    · have ei : i = xss.length := by omega
      subst ei
      have e1 : (bs ++ [b]).getD xss.length 0 = b := by simp [List.getD, List.getElem?_append, h1]
      have e2 : (xss ++ [r]).getD xss.length [] = r := by simp [List.getD, List.getElem?_append]
      have e3 : (us ++ [u]).getD xss.length undef = u := by simp [List.getD, List.getElem?_append, hul]
      rw [e1, e2, e3]
      refine hb.mono ?_
      simp [orHp, hK b hbn]
  · unfold orHp at hq
    cases e : K q with
    | none => rw [e] at hq; exact lr q o (by simpa using hq)
    | some x => rw [e] at hq; exact h.lq q o (by rw [e]; simpa using hq)
theorem enc_get {xs : List A} {cur : Array Value} {d : A} (h : cur.toList.take xs.length = xs.map enc) {j : Nat} (hj : j < xs.length) : cur[j]? = some (enc (xs.getD j d)) := by
  have h1 : (cur.toList.take xs.length)[j]? = some (enc (xs.getD j d)) := by rw [h]; simp [List.getD, hj]
  rw [List.getElem?_take, if_pos hj] at h1
  rw [← Array.getElem?_toList]; exact h1
section ops
variable {C : Cx} {dr : Bool} {ops : Array Oper} {Q : Post} {ims L : List Hp} {G : Env} {fl : List Bool} {rest : List Oper} {d ty : Nat} {pos : String} {af : Array Edge}
variable {EH E i j : Nat} {H K : Hp} {v p u : Value} {us : List Value} {xss : List (List A)} {x y : Operand} {T E' by' : Nat} {z : Value}
/-- Two heaplets of the call's own lie apart. -/
theorem kl_apart (K H : Hp) {L' : List Hp} [t : TakeL [K, H] L L'] (h : Apart K H → KL C dr ops Q ims L fl rest G) : KL C dr ops Q ims L fl rest G := fun a w hf hs =>
  h ((List.pairwise_cons.1 (hs.perm t.t).nd).1 H (.head _)) a w hf hs
/-- An owned heaplet of two parts is two. -/
theorem St.split {B : World} {X : Side} {ims L' : List Hp} {w : World} {K H : Hp} (h : St B X ims (orHp K H :: L') w) (ap : Apart K H) : St B X ims (K :: H :: L') w := by
  have hk := h.own _ (.head _)
  have d1 : ∀ b, K b ≠ none → orHp K H b ≠ none := fun b hb e => by
    cases e1 : K b with
    | none => exact hb e1
    | some o => simp [orHp, e1] at e
  have d2 : ∀ b, H b ≠ none → orHp K H b ≠ none := fun b hb e => by
    have := (ap b).resolve_right hb
    simp [orHp, this] at e; exact hb e
  have a1 : Agree K w := fun b o hb => hk.1 b o (by simp [orHp, hb])
  have a2 : Agree H w := fun b o hb => hk.1 b o (by
    have := (ap b).resolve_right (by rw [hb]; simp)
    simp [orHp, this, hb])
  have sub : ∀ M : Hp, Apart (orHp K H) M → Apart K M ∧ Apart H M := fun M ha => ⟨fun b => by
      by_cases e : K b = none
      · exact .inl e
      · exact .inr ((ha b).resolve_left (d1 b e)), fun b => by
      by_cases e : H b = none
      · exact .inl e
      · exact .inr ((ha b).resolve_left (d2 b e))⟩
  have hnd := List.pairwise_cons.1 h.nd
  refine h.still (fun b hb => ?_) h.im (fun M hM => ?_) ?_
  · rcases hb with ⟨M, hM, hb⟩ | hb
    · cases hM with
      | head => exact .inl ⟨_, .head _, d1 b hb⟩
      | tail _ hM => cases hM with
        | head => exact .inl ⟨_, .head _, d2 b hb⟩
        | tail _ hM => exact .inl ⟨M, .tail _ hM, hb⟩
    · exact .inr hb
  · cases hM with
    | head => exact ⟨a1, fun b hb => hk.2.1 b (d1 b hb), fun I hI => (sub I (hk.2.2 I hI)).1⟩
    | tail _ hM => cases hM with
      | head => exact ⟨a2, fun b hb => hk.2.1 b (d2 b hb), fun I hI => (sub I (hk.2.2 I hI)).2⟩
      | tail _ hM => exact h.own M (.tail _ hM)
  · refine List.pairwise_cons.2 ⟨fun M hM => ?_, List.pairwise_cons.2 ⟨fun M hM => (sub M (hnd.1 M hM)).2, hnd.2⟩⟩
    cases hM with
    | head => exact ap
    | tail _ hM => exact (sub M (hnd.1 M hM)).1
theorem kl_split (K H : Hp) {L' : List Hp} [t : TakeL [orHp K H] L L'] (ap : Apart K H) (h : KL C false ops Q ims (K :: H :: L') fl rest G) : KL C false ops Q ims L fl rest G := fun a w hf hs => by
  have h1 := h a w hf ((hs.perm t.t).split ap)
  refine wpSeq_false (fun u hu => ?_) _ _ _ _ h1
  unfold Cx.W at *
  cases e : C.lo <;> rw [e] at hu
  · exact St.split (L' := L') (St.perm (show St C.B C.X ims L u from hu) t.t) ap
  · exact hu
end ops
/-- A list of rows that a call gives: header and rows in one heaplet. -/
def MatR (EH E : Nat) (enc : A → Value) (Hq : Hp) (v : Value) (xss : List (List A)) : Prop := ∃ (H K : Hp) (us : List Value), Hq = orHp H K ∧ Apart H K ∧ Mat EH E enc H K v us xss
/-- What it reads as. -/
theorem Mat.rows {EH E : Nat} {H K M : Hp} {v : Value} {us : List Value} {xss : List (List Int)} (h : Mat EH E encI H K v us xss) (h1 : ∀ b o, H b = some o → M b = some o) (h2 : ∀ b o, K b = some o → M b = some o) : Rows M v xss := by
  obtain ⟨bs, hb1, hb2, h3⟩ := h.bs
  refine h.hd.sl (k := 1) (K := M) (R := SlC M 1 IntC) rfl h1 (fun i hi => ?_)
  obtain ⟨c, cur, e, q2, q3, q4, q5, q6, q7⟩ := h3 i hi
  have hu : i < us.length := by rw [h.ulen]; exact hi
  rw [Nat.mul_one, List.drop_eq_getElem_cons hu, List.take_succ_cons, List.take_zero]
  have e1 : us.getD i undef = us[i] := by simp [List.getD, hu]
  have e2 : xss.getD i [] = xss[i] := by simp [List.getD, hi]
  rw [e1, e2] at e
  rw [e2] at q2 q5 q6
  refine ⟨us[i], rfl, some ⟨bs.getD i 0, 0, none⟩, c, e, q2, q5, fun j hj => ⟨_, 0, rfl, [.int .i64 xss[i][j]], rfl, rfl, _, 0 + j * 1, cur, E, (0, 0), rfl, h2 _ _ q7, fun q w hq => ?_⟩⟩
  cases q with
  | zero =>
    simp only [List.getElem?_cons_zero, Option.some.injEq] at hq
    subst hq
    have := enc_get (enc := encI) (d := 0) q6 hj
    have e3 : (xss[i]).getD j 0 = xss[i][j] := by simp [List.getD, hj]
    rw [e3] at this
    simpa [encI] using this
  | succ q => simp at hq
theorem fr_l {B : World} {H K : Hp} (h : Fr B (orHp H K)) (l : Liq H) : Fr B H := ⟨fun b hb => h.1 b (fun e => by
  cases e1 : H b with
  | none => exact hb e1
  | some o => simp [orHp, e1] at e), l⟩
theorem fr_r {B : World} {H K : Hp} (h : Fr B (orHp H K)) (l : Liq K) : Fr B K := ⟨fun b hb => h.1 b (fun e => by
  cases e1 : H b with
  | none => simp [orHp, e1] at e; exact hb e
  | some o => simp [orHp, e1] at e), l⟩
theorem kl_mrg {C : Cx} {ops : Array Oper} {Q : Post} {ims L : List Hp} {G : Env} {fl : List Bool} {rest : List Oper} (K H : Hp) {L' : List Hp} [t : TakeL [K, H] L L'] (h : KL C false ops Q ims (orHp K H :: L') fl rest G) : KL C false ops Q ims L fl rest G := fun a w hf hs => by
  have h1 := h a w hf (hs.perm t.t).mrg
  refine wpSeq_false (fun u hu => ?_) _ _ _ _ h1
  unfold Cx.W at *
  cases e : C.lo <;> rw [e] at hu
  · exact (St.perm (show St C.B C.X ims L u from hu) t.t).mrg
  · exact hu
theorem kq_apart {C : Cx} {ims L : List Hp} {G : Env} {p : Act → World → Prop} (K H : Hp) {L' : List Hp} [t : TakeL [K, H] L L'] (h : Apart K H → KQ C ims L G p) : KQ C ims L G p := fun a w hf hs =>
  h ((List.pairwise_cons.1 (hs.perm t.t).nd).1 H (.head _)) a w hf hs
end
section
theorem kq_own {P : Program} {n : Nat} {B : World} {ims L : List Hp} {G : Env} {p : Act → World → Prop} (H : Hp) [i : In H L] (l : Liq H) (h : Fr B H → KQ ⟨P, n, B, noS, false, [], none⟩ ims L G p) : KQ ⟨P, n, B, noS, false, [], none⟩ ims L G p := fun a w hf hs =>
  h ⟨fun b hb => ((hs.own H i.mem).2.1 b hb).elim id (fun h9 => h9.elim), l⟩ a w hf hs
theorem SpecP.ims {P : Program} {f : FuncId} {args : List Value} {ims ims' : List Hp} {v : Value} (h : SpecP P f args ims v) (hs : ∀ I ∈ ims, I ∈ ims') : SpecP P f args ims' v := fun w hA => h w (fun I hI => hA I (hs I hI))
theorem MatR.rows {EH E : Nat} {H : Hp} {v : Value} {xss : List (List Int)} (h : MatR EH E encI H v xss) : Rows H v xss := by
  obtain ⟨H1, K, us, rfl, ap, hm⟩ := h
  refine hm.rows orL (fun b o hb => ?_)
  have := (ap b).resolve_right (by rw [hb]; simp)
  simp [orHp, this, hb]
section ops
variable {C : Cx} {dr : Bool} {ops : Array Oper} {Q : Post} {ims L : List Hp} {G : Env} {fl : List Bool} {rest : List Oper} {d ty : Nat} {pos : String} {af : Array Edge}
end ops
end
section
theorem Mat.one {A : Type} {enc : A → Value} {EH E : Nat} {H Hr : Hp} {v u : Value} {r : List A} (o : OwnS EH 1 H v 1 [u]) (hr : OwnS E 1 Hr u r.length (r.map enc)) (h0 : 0 < r.length) (lr : Liq Hr) : Mat EH E enc H Hr v [u] [r] := by
  have h := Mat.push (Mat.nil (enc := enc) (E := E) (OwnS.nil (T := EH) (k := 1))) (H' := H) (v' := v) (by simpa using o) hr h0 lr (fun _ => .inl rfl)
  have e : orHp noHp Hr = Hr := by funext b; rfl
  rw [e] at h
  simpa using h
theorem OwnS.clip {E k n : Nat} {H : Hp} {v u : Value} {cs : List Value} (h : OwnS E k H v n cs) (hc : ClipV v u n) : OwnS E k H u n cs := by
  obtain ⟨h1, h2, h3⟩ := h
  obtain ⟨a, c, e, hle, rfl⟩ := hc
  refine ⟨h1, h2, ?_⟩
  rcases h3 with ⟨a0, rfl, h0, rfl⟩ | ⟨b, c', cur, rfl, g1, g2, g3, g4, rfl⟩
  · simp only [Value.slice.injEq] at e
    obtain ⟨rfl, e1, e2⟩ := e
    exact .inl ⟨a0, by rw [h0], h0, rfl⟩
  · simp only [Value.slice.injEq] at e
    obtain ⟨rfl, e1, e2⟩ := e
    exact .inr ⟨b, n, cur, rfl, Nat.le_refl _, Nat.le_trans g1 g2, Nat.le_trans (Nat.mul_le_mul_right _ g1) g3, g4, rfl⟩
theorem Mat.clip {A : Type} {enc : A → Value} {EH E : Nat} {H K : Hp} {v u : Value} {us : List Value} {xss : List (List A)} (h : Mat EH E enc H K v us xss) (hc : ClipV v u xss.length) : Mat EH E enc H K u us xss := ⟨h.hd.clip hc, h.bs, h.lq⟩
theorem kt_mrg {C : Cx} {ops : Array Oper} {Q : Post} {ims L : List Hp} {G : Env} {fx : Nat → Bool} {LS : List Hp} {fuel : Nat} {listed : Array Bool} (K H : Hp) {L' : List Hp} [t : TakeL [K, H] L L'] (h : KT C ops Q fx LS fuel listed ims (orHp K H :: L') G) : KT C ops Q fx LS fuel listed ims L G := fun a w hf hs hdc =>
  h a w hf (hs.perm t.t).mrg hdc
section ops
variable {C : Cx} {dr : Bool} {ops : Array Oper} {Q : Post} {ims L : List Hp} {G : Env} {fl : List Bool} {rest : List Oper} {d ty : Nat} {pos : String} {af : Array Edge}
end ops
theorem BlkR.ints {E b : Nat} {K M : Hp} {xs : List Int} {u : Value} (h : BlkR E encI K b xs u) (hk : M b = K b) : Ints M u xs := by
  obtain ⟨c, cur, e, q2, q3, q4, q5, q6, q7⟩ := h
  refine ⟨some ⟨b, 0, none⟩, c, e, q2, q5, fun j hj => ⟨_, 0, rfl, [.int .i64 xs[j]], rfl, rfl, _, 0 + j * 1, cur, E, (0, 0), rfl, by rw [hk]; exact q7, fun q w hq => ?_⟩⟩
  cases q with
  | zero =>
    simp only [List.getElem?_cons_zero, Option.some.injEq] at hq
    subst hq
    have := enc_get (enc := encI) (d := 0) q6 hj
    have e3 : xs.getD j 0 = xs[j] := by simp [List.getD, hj]
    rw [e3] at this
    simpa [encI] using this
  | succ q => simp at hq
theorem Mat.two {A : Type} {enc : A → Value} {EH E : Nat} {H H1 H2 : Hp} {v u1 u2 : Value} {r1 r2 : List A} (o : OwnS EH 1 H v 2 [u1, u2]) (h1 : OwnS E 1 H1 u1 r1.length (r1.map enc)) (p1 : 0 < r1.length) (l1 : Liq H1)
    (h2 : OwnS E 1 H2 u2 r2.length (r2.map enc)) (p2 : 0 < r2.length) (l2 : Liq H2) (ap : Apart H1 H2) : Mat EH E enc H (orHp H1 H2) v [u1, u2] [r1, r2] := by
  obtain ⟨b1, hb1, n1⟩ := blk_of h1 p1
  obtain ⟨b2, hb2, n2⟩ := blk_of h2 p2
  have e1 : H2 b1 = none := (ap b1).resolve_left n1
  have e2 : H1 b2 = none := (ap b2).resolve_right n2
  refine ⟨o, ⟨[b1, b2], rfl, ?_, fun i hi => ?_⟩, fun q x hq => ?_⟩
  · simp only [List.nodup_cons, List.mem_singleton, List.not_mem_nil, not_false_eq_true, List.nodup_nil, and_true]
    intro e; rw [e] at n1; exact n1 e2
  · match i, hi with
    | 0, _ => exact hb1.mono (by unfold orHp; rw [e1]; cases H1 b1 <;> rfl)
    | 1, _ => exact hb2.mono (by unfold orHp; rw [e2]; rfl)
    | i + 2, hi => exact absurd hi (by simp)
  · unfold orHp at hq
    cases e : H1 q with
    | none => rw [e] at hq; exact l2 q x (by simpa using hq)
    | some y => rw [e] at hq; exact l1 q x (by rw [e]; simpa using hq)
theorem St.orI {B : World} {X : Side} {ims L : List Hp} {w : World} {H K : Hp} (hH : H ∈ ims) (hK : K ∈ ims) (h : St B X ims L w) : St B X (orHp H K :: ims) L w := by
  have ap : ∀ b, orHp H K b ≠ none → H b ≠ none ∨ K b ≠ none := fun b hb => by
    unfold orHp at hb
    cases e : H b with
    | none => rw [e] at hb; exact .inr (by simpa using hb)
    | some x => exact .inl (by simp)
  refine h.still (fun b hb => ?_) (fun I hI => ?_) (fun O hO => ⟨(h.own O hO).1, (h.own O hO).2.1, fun I hI => ?_⟩) h.nd
  · rcases hb with ⟨O, hO, hb⟩ | ⟨hB, I, hI, hb⟩
    · exact .inl ⟨O, hO, hb⟩
    · rcases List.mem_cons.1 hI with rfl | hI
      · rcases ap b hb with e | e
        · exact .inr ⟨hB, H, hH, e⟩
        · exact .inr ⟨hB, K, hK, e⟩
      · exact .inr ⟨hB, I, hI, hb⟩
  · rcases List.mem_cons.1 hI with rfl | hI
    · exact agree_or (h.im H hH) (h.im K hK)
    · exact h.im I hI
  · rcases List.mem_cons.1 hI with rfl | hI
    · intro b
      have h1 := (h.own O hO).2.2 H hH b
      have h2 := (h.own O hO).2.2 K hK b
      by_cases e : O b = none
      · exact .inl e
      · right; unfold orHp; rw [h1.resolve_left e, h2.resolve_left e]; rfl
    · exact (h.own O hO).2.2 I hI
end
section
/-- One row alone, the others beside it. -/
theorem Mat.row {EH E : Nat} {H K : Hp} {v : Value} {us : List Value} {xss : List (List Int)} (h : Mat EH E encI H K v us xss) {i : Nat} (hi : i < xss.length) :
    ∃ Ki Kr : Hp, K = orHp Ki Kr ∧ Apart Ki Kr ∧ Liq Ki ∧ Ints Ki (us.getD i undef) (xss.getD i []) ∧
      ∀ (Ki' : Hp) (ys : List Int), Mk Ki Ki' → Ints Ki' (us.getD i undef) ys → ys.length = (xss.getD i []).length → Mat EH E encI H (orHp Ki' Kr) v us (xss.set i ys) := by
  obtain ⟨bs, h1, h2, h3⟩ := h.bs
  have hb := h3 i hi
  obtain ⟨b, hbb⟩ : ∃ b, bs.getD i 0 = b := ⟨_, rfl⟩
  rw [hbb] at hb
  obtain ⟨Ki, hKi⟩ : ∃ Ki : Hp, Ki = fun b' => if b' = b then K b' else none := ⟨_, rfl⟩
  obtain ⟨Kr, hKr⟩ : ∃ Kr : Hp, Kr = fun b' => if b' = b then none else K b' := ⟨_, rfl⟩
  have i1 : Ki b = K b := by rw [hKi]; simp
  have i2 : ∀ b', b' ≠ b → Ki b' = none := fun b' hn => by rw [hKi]; simp [hn]
  have r1 : Kr b = none := by rw [hKr]; simp
  have r2 : ∀ b', b' ≠ b → Kr b' = K b' := fun b' hn => by rw [hKr]; simp [hn]
  have hs : Ints Ki (us.getD i undef) (xss.getD i []) := hb.ints i1
  obtain ⟨c, cur, eu, q2, q3, q4, q5, q6, q7⟩ := hb
  have lq : Liq Ki := fun q o hq => by
    by_cases e : q = b
    · subst e; rw [i1] at hq; exact h.lq q o hq
    · rw [i2 q e] at hq; cases hq
  refine ⟨Ki, Kr, ?_, ?_, lq, hs, ?_⟩
  · funext b'
    by_cases e : b' = b
    · subst e; unfold orHp; rw [i1, r1]; cases K b' <;> rfl
    · unfold orHp; rw [i2 b' e, r2 b' e]; rfl
  · intro b'
    by_cases e : b' = b
    · subst e; exact .inr r1
    · exact .inl (i2 b' e)
  · intro Ki' ys hm hy hl
    obtain ⟨cur', k1, k2, _⟩ := hm.2 b cur E (0, 0) (by rw [i1]; exact q7)
    have n1 : ∀ b', b' ≠ b → Ki' b' = none := fun b' hn => hm.1 b' (i2 b' hn)
    refine ⟨by rw [List.length_set]; exact h.hd, ⟨bs, by rw [List.length_set]; exact h1, h2, fun q hq => ?_⟩, ?_⟩
    · rw [List.length_set] at hq
      by_cases e : q = i
      · subst e
        have e1 : (xss.set q ys).getD q [] = ys := by simp [List.getD, hq]
        rw [e1, hbb]
        obtain ⟨a2, c2, ea, _, _, hcell⟩ := hy
        refine ⟨c, cur', by rw [hl]; exact eu, by rw [hl]; exact q2, q3, by rw [k2]; exact q4, by rw [hl]; exact q5, ?_, by unfold orHp; rw [k1]; rfl⟩
        apply List.ext_getElem
        · simp; omega
        · intro j j1 j2
          have hj : j < ys.length := by simpa using j2
          obtain ⟨b3, o3, e3, vs, l3, r3, t3⟩ := hcell j hj
          rw [eu] at ea
          simp only [Value.slice.injEq] at ea
          rw [e3] at ea
          simp only [Option.some.injEq, Addr.mk.injEq, and_true] at ea
          obtain ⟨⟨rfl, rfl⟩, _, _⟩ := ea
          obtain ⟨b4, o4, cs4, T4, fz4, e4, e5, e6⟩ := t3
          simp only [Value.pointer.injEq, Option.some.injEq, Addr.mk.injEq, and_true] at e4
          obtain ⟨rfl, rfl⟩ := e4
          rw [k1] at e5
          simp only [Option.some.injEq, Obj.cells.injEq] at e5
          obtain ⟨rfl, _, _⟩ := e5
          unfold IntC at r3
          subst r3
          have h9 := e6 0 (.int .i64 ys[j]) rfl
          rw [List.getElem_take, List.getElem_map]
          have hjs : j < cur'.size := by
            have : ys.length ≤ cur'.size := by rw [hl, k2]; omega
            omega
          have h8 : cur'[j]? = some (.int .i64 ys[j]) := by simpa using h9
          rw [Array.getElem?_eq_getElem hjs] at h8
          simpa [encI] using h8
      · have e1 : (xss.set i ys).getD q [] = xss.getD q [] := by
          have e' : i ≠ q := fun h => e h.symm
          simp [List.getD, List.getElem?_set, e']
        rw [e1]
        have hne : bs.getD q 0 ≠ b := fun e2 => by
          have hq1 : q < bs.length := by omega
          have hi1 : i < bs.length := by omega
          rw [← hbb, List.getD_eq_getElem?_getD, List.getElem?_eq_getElem hq1, List.getD_eq_getElem?_getD, List.getElem?_eq_getElem hi1, Option.getD_some, Option.getD_some] at e2
          rcases Nat.lt_or_gt_of_ne e with h9 | h9
          · exact absurd e2 (List.pairwise_iff_getElem.1 h2 q i hq1 hi1 h9)
          · exact absurd e2.symm (List.pairwise_iff_getElem.1 h2 i q hi1 hq1 h9)
        refine (h3 q hq).mono ?_
        unfold orHp
        rw [n1 _ hne, r2 _ hne]; rfl
    · refine liq_or (hm.liq lq) (fun q o hq => ?_)
      by_cases e : q = b
      · subst e; rw [r1] at hq; cases hq
      · rw [r2 q e] at hq; exact h.lq q o hq
/-! The marks themselves. -/
theorem drop_cons {A : Type} {xs : List A} {i : Nat} (d : A) (h : i < xs.length) : xs.drop i = xs.getD i d :: xs.drop (i + 1) := by
  rw [List.drop_eq_getElem_cons h]; simp [List.getD, h]
end
section
/-! Heaplets side by side. -/
theorem orHp_assoc (A B C : Hp) : orHp (orHp A B) C = orHp A (orHp B C) := by
  funext b; unfold orHp; cases A b <;> rfl
theorem orHp_no (A : Hp) : orHp A noHp = A := by
  funext b; unfold orHp; cases A b <;> rfl
theorem no_orHp (A : Hp) : orHp noHp A = A := by funext b; rfl
theorem apart_symm {A B : Hp} (h : Apart A B) : Apart B A := fun b => (h b).symm
theorem orHp_comm {A B : Hp} (h : Apart A B) : orHp A B = orHp B A := by
  funext b; unfold orHp
  rcases h b with e | e
  · rw [e]; cases B b <;> rfl
  · rw [e]; cases A b <;> rfl
theorem orHp_swap {A B C : Hp} (h : Apart A B) : orHp A (orHp B C) = orHp B (orHp A C) := by
  rw [← orHp_assoc, orHp_comm h, orHp_assoc]
theorem apart_or {A B C : Hp} : Apart A (orHp B C) ↔ Apart A B ∧ Apart A C := by
  constructor
  · intro h
    refine ⟨fun b => ?_, fun b => ?_⟩
    · rcases h b with e | e
      · exact .inl e
      · unfold orHp at e; right; cases e2 : B b with
        | none => rfl
        | some x => rw [e2] at e; cases e
    · rcases h b with e | e
      · exact .inl e
      · unfold orHp at e; right; cases e2 : B b with
        | none => rw [e2] at e; simpa using e
        | some x => rw [e2] at e; cases e
  · rintro ⟨h1, h2⟩ b
    rcases h1 b with e | e
    · exact .inl e
    · rcases h2 b with e2 | e2
      · exact .inl e2
      · right; unfold orHp; rw [e, e2]; rfl
theorem apart_orL {A B C : Hp} : Apart (orHp B C) A ↔ Apart B A ∧ Apart C A :=
  ⟨fun h => let g := apart_or.1 (apart_symm h); ⟨apart_symm g.1, apart_symm g.2⟩, fun h => apart_symm (apart_or.2 ⟨apart_symm h.1, apart_symm h.2⟩)⟩
theorem apart_no (A : Hp) : Apart A noHp := fun _ => .inr rfl
/-! Constraints as they lie in the header. -/
structure RawC where
  kind : Int
  va : Value
  vb : Value
  bound : Int
  vr : Value
def nilRaw : RawC := ⟨0, undef, undef, 0, undef⟩
def RawV (H : Hp) (vs : List Value) (r : RawC) : Prop := vs = [.int .i64 r.kind, r.va, r.vb, .int .i64 r.bound, r.vr]
/-- The parts of one constraint: its variables, its numbers, its rows (heads and blocks). -/
structure Pc4 (EH E : Nat) (Hv Ha Hh Hk : Hp) (us : List Value) (r : RawC) (c : Con) : Prop where
  a1 : Apart Hv (orHp Ha (orHp Hh Hk))
  a2 : Apart Ha (orHp Hh Hk)
  a3 : Apart Hh Hk
  iv : Ints Hv r.va c.vars
  lv : Liq Hv
  ia : Ints Ha r.vb c.args
  la : Liq Ha
  mr : Mat EH E encI Hh Hk r.vr us c.rows
  ek : r.kind = c.kind
  eb : r.bound = c.bound
def Pc (EH E : Nat) (P : Hp) (r : RawC) (c : Con) : Prop := ∃ (Hv Ha Hh Hk : Hp) (us : List Value), P = orHp Hv (orHp Ha (orHp Hh Hk)) ∧ Pc4 EH E Hv Ha Hh Hk us r c
def uniHp : List Hp → Hp
  | [] => noHp
  | P :: Ps => orHp P (uniHp Ps)
def Scs (EH E : Nat) : List Hp → List RawC → List Con → Prop
  | [], [], [] => True
  | P :: Ps, r :: rs, c :: cs => Pc EH E P r c ∧ Scs EH E Ps rs cs ∧ Apart P (uniHp Ps)
  | _, _, _ => False
def SepCs (EH E : Nat) (K : Hp) (raws : List RawC) (cs : List Con) : Prop := ∃ Ps, K = uniHp Ps ∧ Scs EH E Ps raws cs
theorem Scs.len {EH E : Nat} : ∀ {Ps : List Hp} {rs : List RawC} {cs : List Con}, Scs EH E Ps rs cs → rs.length = cs.length
  | [], [], [], _ => rfl
  | P :: Ps, r :: rs, c :: cs, h => by simp only [List.length_cons]; rw [h.2.1.len]
  | [], [], _ :: _, h => h.elim
  | [], _ :: _, _, h => h.elim
  | _ :: _, [], _, h => h.elim
  | _ :: _, _ :: _, [], h => h.elim
theorem SepCs.len {EH E : Nat} {K : Hp} {rs : List RawC} {cs : List Con} (h : SepCs EH E K rs cs) : rs.length = cs.length := by obtain ⟨Ps, _, h⟩ := h; exact h.len
theorem SepCs.nil {EH E : Nat} : SepCs EH E noHp [] [] := ⟨[], rfl, trivial⟩
/-- One constraint alone, the others beside it. -/
theorem SepCs.split {EH E : Nat} : ∀ {i : Nat} {K : Hp} {rs : List RawC} {cs : List Con}, SepCs EH E K rs cs → i < cs.length →
    ∃ Pi Ki, K = orHp Pi Ki ∧ Apart Pi Ki ∧ Pc EH E Pi (rs.getD i nilRaw) (cs.getD i nilCon) ∧
      ∀ P' r' c', Apart P' Ki → Pc EH E P' r' c' → SepCs EH E (orHp P' Ki) (rs.set i r') (cs.set i c')
  | i, K, rs, [], h, hi => absurd hi (Nat.not_lt_zero _)
  | i, K, [], c :: cs, h, hi => by have := h.len; simp at this
  | 0, K, r :: rs, c :: cs, h, _ => by
    obtain ⟨Ps, rfl, h⟩ := h
    match Ps, h with
    | P :: Ps, h =>
      exact ⟨P, uniHp Ps, rfl, h.2.2, h.1, fun P' r' c' ap hp => ⟨P' :: Ps, rfl, hp, h.2.1, ap⟩⟩
  | i + 1, K, r :: rs, c :: cs, h, hi => by
    obtain ⟨Ps, rfl, h⟩ := h
    match Ps, h with
    | P :: Ps, h =>
      obtain ⟨Pi, Ki, e, ap, hp, back⟩ := SepCs.split (i := i) (K := uniHp Ps) ⟨Ps, rfl, h.2.1⟩ (by simpa using hi)
      have hP := h.2.2
      rw [e, apart_or] at hP
      refine ⟨Pi, orHp P Ki, ?_, apart_or.2 ⟨apart_symm hP.1, ap⟩, by simpa using hp, fun P' r' c' ap' hp' => ?_⟩
      · rw [uniHp, e, orHp_swap hP.1]
      · obtain ⟨ap1, ap2⟩ := apart_or.1 ap'
        obtain ⟨Ps', e', h'⟩ := back P' r' c' ap2 hp'
        refine ⟨P :: Ps', ?_, h.1, h', ?_⟩
        · rw [uniHp, ← e', orHp_swap ap1]
        · rw [← e']; exact apart_or.2 ⟨apart_symm ap1, hP.2⟩
theorem SepCs.snoc {EH E : Nat} {K P : Hp} {rs : List RawC} {cs : List Con} {r : RawC} {c : Con} (h : SepCs EH E K rs cs) (hp : Pc EH E P r c) (ap : Apart K P) : SepCs EH E (orHp K P) (rs ++ [r]) (cs ++ [c]) := by
  obtain ⟨Ps, rfl, h⟩ := h
  induction Ps generalizing rs cs with
  | nil =>
    match rs, cs, h with
    | [], [], _ => exact ⟨[P], by rw [uniHp, uniHp, uniHp, no_orHp, orHp_no], hp, trivial, apart_no _⟩
  | cons Q Ps ih =>
    match rs, cs, h with
    | r0 :: rs, c0 :: cs, h =>
      obtain ⟨a1, a2⟩ := apart_orL.1 ap
      obtain ⟨Ps', e, h'⟩ := ih h.2.1 a2
      exact ⟨Q :: Ps', by rw [uniHp, uniHp, ← e, orHp_assoc], h.1, h', by rw [← e]; exact apart_or.2 ⟨h.2.2, a1⟩⟩
theorem Pc.con {EH E : Nat} {P : Hp} {r : RawC} {c : Con} (h : Pc EH E P r c) : ConV P [.int .i64 r.kind, r.va, r.vb, .int .i64 r.bound, r.vr] c := by
  obtain ⟨Hv, Ha, Hh, Hk, us, rfl, q⟩ := h
  have i1 : ∀ b o, Ha b = some o → orHp Hv (orHp Ha (orHp Hh Hk)) b = some o := fun b o h => by
    rw [orHp_swap (apart_or.1 q.a1).1]; exact orL b o h
  have i2 : ∀ b o, orHp Hh Hk b = some o → orHp Hv (orHp Ha (orHp Hh Hk)) b = some o := fun b o h => by
    rw [← orHp_assoc, orHp_comm (apart_orL.2 ⟨(apart_or.1 q.a1).2, q.a2⟩)]; exact orL b o h
  refine ⟨_, _, _, by rw [q.ek, q.eb], Sl.mono q.iv orL (fun _ _ h => h), Sl.mono q.ia i1 (fun _ _ h => h), q.mr.rows (fun b o h => i2 b o (orL b o h)) (fun b o h => i2 b o ?_)⟩
  rw [orHp_comm q.a3]; exact orL b o h
theorem SepCs.at {EH E : Nat} {K : Hp} {rs : List RawC} {cs : List Con} (h : SepCs EH E K rs cs) {i : Nat} (hi : i < cs.length) : ConV K [.int .i64 (rs.getD i nilRaw).kind, (rs.getD i nilRaw).va, (rs.getD i nilRaw).vb, .int .i64 (rs.getD i nilRaw).bound, (rs.getD i nilRaw).vr] (cs.getD i nilCon) := by
  obtain ⟨Pi, Ki, e, _, hp, _⟩ := h.split hi
  rw [e]
  obtain ⟨a, b, r, e1, h1, h2, h3⟩ := hp.con
  exact ⟨a, b, r, e1, Sl.mono h1 orL (fun _ _ h => h), Sl.mono h2 orL (fun _ _ h => h), Rows.mono' h3 orL⟩
/-- Read as a list of constraints. -/
theorem SepCs.own {EH E EC : Nat} {Hc K : Hp} {v : Value} {rs : List RawC} {cs : List Con} (h : SepCs EH E K rs cs) (o : OwnL EC 5 Hc noHp RawV v rs) : OwnL EC 5 Hc K ConV v cs := by
  obtain ⟨cells, h1, h2⟩ := o
  have hl := h.len
  refine ⟨cells, by rw [← hl]; exact h1, fun i hi => ?_⟩
  have h3 := h2 i (by omega)
  unfold RawV at h3
  rw [h3]
  have h4 := h.at hi
  have e1 : rs.getD i nilRaw = rs[i]'(by omega) := by simp [List.getD_eq_getElem?_getD, show i < rs.length by omega]
  have e2 : cs.getD i nilCon = cs[i] := by simp [List.getD_eq_getElem?_getD, hi]
  rw [e1, e2] at h4
  exact h4
/-! The header's cells. -/
section ops
variable {C : Cx} {dr : Bool} {ops : Array Oper} {Q : Post} {ims L : List Hp} {G : Env} {fl : List Bool} {rest : List Oper} {d ty : Nat} {pos : String} {af : Array Edge}
end ops
theorem apart_cmp {H K : Hp} (a : Apart H K) : Cmp H K := fun b o o' h1 h2 => by
  rcases a b with e | e
  · rw [e] at h1; cases h1
  · rw [e] at h2; cases h2
theorem Pc.one {EH E : Nat} {P : Hp} {r : RawC} {c : Con} (h : Pc EH E P r c) : ∀ x ∈ [Value.int .i64 r.kind, r.va, r.vb, .int .i64 r.bound, r.vr], x.oneCell' = true := by
  obtain ⟨Hv, Ha, Hh, Hk, us, rfl, q⟩ := h
  exact oc rfl (oc (Sl.oneCell q.iv) (oc (Sl.oneCell q.ia) (oc rfl (oc (Sl.oneCell (q.mr.rows (M := orHp Hh Hk) orL (by rw [orHp_comm q.a3]; exact orL))) oc_nil))))
/-- A list of constraints with a header and parts apart. -/
structure SepM (EC EH E : Nat) (H K : Hp) (v : Value) (rs : List RawC) (cs : List Con) : Prop where
  hd : OwnL EC 5 H noHp RawV v rs
  sp : SepCs EH E K rs cs
theorem SepM.push {EC EH E : Nat} {H H' K P : Hp} {v v' : Value} {rs : List RawC} {cs : List Con} {r : RawC} {c : Con} (h : SepM EC EH E H K v rs cs) (o : OwnL EC 5 H' noHp RawV v' (rs ++ [r])) (p : Pc EH E P r c) (ap : Apart K P) :
    SepM EC EH E H' (orHp K P) v' (rs ++ [r]) (cs ++ [c]) := ⟨o, h.sp.snoc p ap⟩
theorem SepM.cons {EC EH E : Nat} {H K : Hp} {v : Value} {rs : List RawC} {cs : List Con} (h : SepM EC EH E H K v rs cs) (ap : Apart H K) : Cons (orHp H K) v cs := (h.sp.own h.hd).consK (apart_cmp ap)
/-- A model with a header and parts apart, all in one heaplet. -/
def ModX (EC EH E : Nat) (M : Hp) (vd vc : Value) (m : Mod) : Prop :=
  ∃ (Hd Hc K : Hp) (rs : List RawC), M = orHp Hd (orHp Hc K) ∧ Apart Hd (orHp Hc K) ∧ Apart Hc K ∧ Liq Hd ∧ Ints Hd vd m.doms ∧ SepM EC EH E Hc K vc rs m.cons
theorem ModX.doms {EC EH E : Nat} {M : Hp} {vd vc : Value} {m : Mod} (h : ModX EC EH E M vd vc m) : Ints M vd m.doms := by
  obtain ⟨Hd, Hc, K, rs, rfl, a1, a2, lq, iv, sm⟩ := h
  exact Sl.mono iv orL (fun _ _ h => h)
theorem ModX.cons {EC EH E : Nat} {M : Hp} {vd vc : Value} {m : Mod} (h : ModX EC EH E M vd vc m) : Cons M vc m.cons := by
  obtain ⟨Hd, Hc, K, rs, rfl, a1, a2, lq, iv, sm⟩ := h
  exact Cons.mono' (sm.cons a2) (orC (apart_cmp a1))
theorem ModX.nil {EC EH E : Nat} : ModX EC EH E noHp (.slice none 0 0) (.slice none 0 0) ⟨[], []⟩ :=
  ⟨noHp, noHp, noHp, [], rfl, fun _ => .inl rfl, fun _ => .inl rfl, fun _ _ h => (by cases h), Sl.nil, ⟨OwnL.nil, SepCs.nil⟩⟩
end
section
structure Lit where
  var : Int
  val : Int
  neg : Bool
def nilLit : Lit := ⟨0, 0, false⟩
theorem lit_ext {a b : Lit} : a = b ↔ a.var = b.var ∧ a.val = b.val ∧ a.neg = b.neg := by cases a; cases b; simp
instance : DecidableEq Lit := fun a b => decidable_of_iff _ lit_ext.symm
def LitC (vs : List Value) (l : Lit) : Prop := vs = [.int .i64 l.var, .int .i64 l.val, .bool l.neg]
def LitV : Rel Lit := fun _ vs l => LitC vs l
instance : RMono LitV := ⟨fun _ h => h⟩
instance : ROne LitV := ⟨fun h u hu => by
  have h : _ = _ := h
  subst h
  simp only [List.mem_cons, List.not_mem_nil, or_false] at hu
  rcases hu with rfl | rfl | rfl <;> rfl⟩
abbrev Lits (H : Hp) (v : Value) (xs : List Lit) : Prop := Sl H 3 LitC v xs
theorem OwnL.lits {E : Nat} {H K : Hp} {v : Value} {xs : List Lit} (h : OwnL E 3 H K LitV v xs) : Lits H v xs := h.sl (fun _ _ h => h) (fun _ _ h => h)
theorem OwnL.atQ {E i : Nat} {H K : Hp} {v p : Value} {xs : List Lit} (hv : OwnL E 3 H K LitV v xs) (hp : PtrL 3 v p i) (hi : i < xs.length) :
    At H p [.int .i64 (xs.getD i nilLit).var, .int .i64 (xs.getD i nilLit).val, .bool (xs.getD i nilLit).neg] := by
  obtain ⟨cs, ⟨hl, hb, ho⟩, hR⟩ := hv
  have e : (cs.drop (i * 3)).take 3 = [.int .i64 (xs[i]).var, .int .i64 (xs[i]).val, .bool (xs[i]).neg] := hR i hi
  have ex : xs.getD i nilLit = xs[i] := by simp [List.getD_eq_getElem?_getD, hi]
  rw [ex]
  obtain ⟨b0, n0, c0, rfl, rfl⟩ := hp
  rcases ho with ⟨_, _, h0, _⟩ | ⟨b1, c, cur, h1, h2, h4, h5, h6, rfl⟩
  · omega
  · simp only [Value.slice.injEq, Option.some.injEq, Addr.mk.injEq, and_true] at h1
    obtain ⟨rfl, rfl, rfl⟩ := h1
    refine ⟨b0, i * 3, cur, E, (0, 0), rfl, by simp, fun j u hj => ?_⟩
    rw [← e, List.getElem?_take] at hj
    split at hj
    · rename_i hj3
      rw [List.getElem?_drop, ← h6, List.getElem?_take] at hj
      split at hj
      · rw [← Array.getElem?_toList]; exact hj
      · cases hj
    · cases hj
section lits
variable {C : Cx} {dr : Bool} {ops : Array Oper} {Q : Post} {ims L : List Hp} {G : Env} {fl : List Bool} {rest : List Oper}
  {d ty : Nat} {pos : String} {af : Array Edge} {T E by' : Nat} {z : Value} {x y : Operand}
theorem kl_inQ {H : Hp} {v : Value} {xs : List Lit} {i : Nat} [hT : IsSlice C.P T E 3 by' z] (hx : ev G x = some v) (hy : ev G y = some (.int .i64 (i : Int))) (hv : Lits H v xs) (h1 : i < xs.length)
    (h : ∀ p, At H p [.int .i64 (xs.getD i nilLit).var, .int .i64 (xs.getD i nilLit).val, .bool (xs.getD i nilLit).neg] → KL C dr ops Q ims L fl.tail rest ((d, p) :: G)) (hlt : Nat.blt d C.n = true := by rfl) :
    KL C dr ops Q ims L fl (⟨some d, .indexAddr T x y, ty, pos, af, none⟩ :: rest) G :=
  kl_ix hx hy hv (by omega) (by omega) (fun p vs hR hat => by
    have e := hR nilLit
    unfold LitC at e; subst e
    exact h p hat) hlt
theorem kl_ixQ {H : Hp} {v : Value} {xs : List Lit} {i : Int} [hT : IsSlice C.P T E 3 by' z] (hx : ev G x = some v) (hy : ev G y = some (.int .i64 i)) (hv : Lits H v xs) (h0 : 0 ≤ i) (h1 : i < xs.length)
    (h : ∀ p, At H p [.int .i64 (xs.getD i.toNat nilLit).var, .int .i64 (xs.getD i.toNat nilLit).val, .bool (xs.getD i.toNat nilLit).neg] → KL C dr ops Q ims L fl.tail rest ((d, p) :: G)) (hlt : Nat.blt d C.n = true := by rfl) :
    KL C dr ops Q ims L fl (⟨some d, .indexAddr T x y, ty, pos, af, none⟩ :: rest) G :=
  kl_ix hx hy hv h0 h1 (fun p vs hR hat => by
    have e := hR nilLit
    unfold LitC at e; subst e
    exact h p hat) hlt
theorem fill_three {a b c : Value} : ∀ {cells : Array Value}, cells.size = 3 → Instr.fill (fun i => some (i * 3, 3)) cells [(0, .agg #[a, b, c])] = some #[a, b, c]
  | ⟨[c0, c1, c2]⟩, _ => rfl
/-- One literal in a list that is written out: fixed memory. -/
theorem kl_bsQ {a b : Int} {c : Bool} [hT : IsSlice C.P T E 3 by' z] {ps : List (Nat × Operand)} (hp : evp G ps = some [(0, .agg #[.int .i64 a, .int .i64 b, .bool c])])
    (h : ∀ v H, Fr C.B H → Rd H 3 v 1 [.int .i64 a, .int .i64 b, .bool c] → Lits H v [⟨a, b, c⟩] → KL C dr ops Q (H :: ims) L fl.tail rest ((d, v) :: G)) (hlt : Nat.blt d C.n = true := by rfl) (hfl : fl.headD false = false := by rfl) :
    KL C dr ops Q ims L fl (⟨some d, .buildSlice T 1 ps.toArray, ty, pos, af, none⟩ :: rest) G := by
  refine kl_newI (v := fun b => .slice (some ⟨b, 0, none⟩) 1 1) (o := .cells #[.int .i64 a, .int .i64 b, .bool c] E) (fun r w hr => ?_) (fun q hb => h _ _ (fr_sing hb) ?_ ?_) hlt hfl
  · have hps := evp_run hr hp
    have hz := hT.z
    have hzv : (zeroValue E).run C.P w = .ok z w := zeroValue_run (by obtain ⟨i, hi, hz', _⟩ := hT.info; simp [hi, hz']) w
    have key : (Instr.buildSlice T 1 [((0 : Nat), Value.agg #[.int .i64 a, .int .i64 b, .bool c])].toArray).run C.P w = .ok (.slice (some ⟨w.heap.size, 0, none⟩) 1 1) (w.alloc (.cells #[.int .i64 a, .int .i64 b, .bool c] E)) := by
      have hff := fill_three (a := .int .i64 a) (b := .int .i64 b) (c := .bool c) (cells := (Array.range (1 * 3)).map (z.cells[· % z.cells.size]!)) (by simp)
      simp only [Instr.buildSlice, Sem.run_bind, run_underlying hT.u, Result.andThen_ok, sizeOf_run hT.size]
      rw [if_neg (by decide), if_neg (by decide)]
      simp only [Sem.run_bind, hzv, Result.andThen_ok, Sem.run_pure, hff]
      rfl
    simp only [execOp, Sem.run_bind, List.map_toArray, hps, key, Result.andThen_ok, Sem.run_pure]
  · exact ⟨some ⟨q, 0, none⟩, 1, rfl, by simp, fun j u hj => ⟨q, 0, #[.int .i64 a, .int .i64 b, .bool c], E, (0, 0), rfl, by simp, by simpa using hj⟩⟩
  · refine ⟨some ⟨q, 0, none⟩, 1, rfl, by simp, by simp, fun i hi => ?_⟩
    have hi0 : i = 0 := by simpa using hi
    subst hi0
    exact ⟨q, 0, rfl, [.int .i64 a, .int .i64 b, .bool c], rfl, rfl, q, 0, #[.int .i64 a, .int .i64 b, .bool c], E, (0, 0), by simp, by simp, fun j u hj => by simpa using hj⟩
end lits
/-! A map with one entry. -/
class MapBI (P : Program) (T : Nat) : Prop where
  m : ∃ K E, P.underlying T = some (.map K E) ∧ P.underlying K = some .bool ∧ (P.info? E).map (·.zero) = some (some (.int .i64 0))
section maps
variable {C : Cx} {dr : Bool} {ops : Array Oper} {Q : Post} {ims L : List Hp} {G : Env} {fl : List Bool} {rest : List Oper}
  {d ty : Nat} {pos : String} {af : Array Edge} {T : Nat} {x y u : Operand}
theorem kl_mkMap (h : ∀ b, C.B.heap.size ≤ b → KL C dr ops Q ims (sing b (.map #[] 0) :: L) fl.tail rest ((d, .map (some b)) :: G)) (hlt : Nat.blt d C.n = true := by rfl) (hfl : fl.headD false = false := by rfl) :
    KL C dr ops Q ims L fl (⟨some d, .makeMap T none, ty, pos, af, none⟩ :: rest) G :=
  kl_new (v := fun b => .map (some b)) (fun r w hr => by
    simp only [execOp, Instr.makeMap, newObj, Option.map_none, Sem.run_bind, Sem.run_pure, Result.andThen_ok]
    rfl) h hlt hfl
theorem kl_insB {b : Nat} {k : Bool} {v : Value} {F : Hp → List Hp} [hT : MapBI C.P T] [hF : UpdF (sing b (.map #[] 0)) L F] (hx : ev G x = some (.map (some b))) (hy : ev G y = some (.bool k)) (hu : ev G u = some v)
    (h : KL C dr ops Q ims (F (sing b (.map #[⟨.bool k, v, 0⟩] 1))) fl.tail rest G) (hfl : fl.headD false = false := by rfl) (hdr : (!dr || rest.isEmpty) = true := by rfl) :
    KL C dr ops Q ims L fl (⟨none, .insert T x y u, ty, pos, af, none⟩ :: rest) G :=
  kl_act rfl hfl fun a w hf hs' => by
    have hup := hF.u (sing b (.map #[⟨.bool k, v, 0⟩] 1))
    have hown := hs'.own _ hup.mem
    have hb := hown.1 b _ (sing_self _ _)
    obtain ⟨K, E, h1, h2, h3⟩ := hT.m
    have hrun : (execOp a.eval ⟨none, .insert T x y u, ty, pos, af, none⟩).run C.P w = .ok .skip { w with heap := w.heap.setIfInBounds b (.map #[⟨.bool k, v, 0⟩] 1) } := by
      have hk : (Instr.findKey K (.bool k) []).run C.P w = .ok none w := MapKept.run_findKey h2 rfl
      simp [execOp, Instr.mapUpdate, Sem.run_bind, hf.ev hx, hf.ev hy, hf.ev hu, run_underlying h1, MapKept.run_getObj_map hb, MapKept.run_checkKey h2 (show MapKept.IsKey .bool (.bool k) from trivial), hk, MapKept.run_setObj_map _ hb, Result.andThen]
    unfold Oper.wp
    rw [hrun]
    refine ⟨ims, _, G, ?_, hf.putNone, ?_, h⟩
    · cases dr with
      | true => left; simpa using hdr
      | false => right; intro e; cases e
    · refine hs'.upd (u := ⟨hup⟩) (by simp) (fun b' _ hn => ?_) (fun b' o' hb' => ?_) (fun b' hb' => .inl ?_) ⟨rfl, rfl⟩
      · have hne : b' ≠ b := fun e => by subst e; simp at hn
        exact (MapKept.heap_set hb).2 b' hne
      · obtain ⟨rfl, rfl⟩ := sing_some hb'
        exact (MapKept.heap_set hb).1
      · by_cases e : b' = b
        · subst e; simp
        · simp [sing, e] at hb'
theorem kl_lkB {b : Nat} {k : Bool} [hT : MapBI C.P T] [hi : In (sing b (.map #[⟨.bool true, .int .i64 1, 0⟩] 1)) ims] (hx : ev G x = some (.map (some b))) (hy : ev G y = some (.bool k))
    (h : KL C dr ops Q ims L fl.tail rest ((d, .int .i64 (if k = true then 1 else 0)) :: G)) (hlt : Nat.blt d C.n = true := by rfl) :
    KL C dr ops Q ims L fl (⟨some d, .lookup T x y false, ty, pos, af, none⟩ :: rest) G :=
  kl_y (fun r w hr hs => by
    have hb := hs.im _ hi.mem b _ (sing_self _ _)
    obtain ⟨K, E, h1, h2, h3⟩ := hT.m
    cases k with
    | true =>
      have hk : (Instr.findKey K (.bool true) [⟨.bool true, .int .i64 1, 0⟩]).run C.P w = .ok (some (0, .int .i64 1)) w := MapKept.run_findKey h2 rfl
      simp [execOp, Instr.lookup, Sem.run_bind, hr _ _ hx, hr _ _ hy, run_underlying h1, MapKept.run_getObj_map hb, MapKept.run_checkKey h2 (show MapKept.IsKey .bool (.bool true) from trivial), hk, Result.andThen]
    | false =>
      have hk : (Instr.findKey K (.bool false) [⟨.bool true, .int .i64 1, 0⟩]).run C.P w = .ok none w := MapKept.run_findKey h2 rfl
      simp [execOp, Instr.lookup, Sem.run_bind, hr _ _ hx, hr _ _ hy, run_underlying h1, MapKept.run_getObj_map hb, MapKept.run_checkKey h2 (show MapKept.IsKey .bool (.bool false) from trivial), hk, zeroValue_run h3, Result.andThen]) h hlt
end maps
end
section
def LRowV : Rel (List Lit) := fun K vs xs => ∃ u, vs = [u] ∧ Lits K u xs
instance : RMono LRowV := ⟨fun hk ⟨u, e, h⟩ => ⟨u, e, h.mono hk (fun _ _ h => h)⟩⟩
instance : ROne LRowV := ⟨fun ⟨_, e, h⟩ u hu => by subst e; rw [List.mem_singleton.1 hu]; exact h.oneCell⟩
abbrev LRows (H : Hp) (v : Value) (xs : List (List Lit)) : Prop := Sl H 1 (SlC H 3 LitC) v xs
theorem LRows.mono' {H K : Hp} {v : Value} {xs : List (List Lit)} (h : LRows H v xs) (hk : ∀ b o, H b = some o → K b = some o) : LRows K v xs :=
  Sl.mono h hk (fun _ _ ⟨u, e, h⟩ => ⟨u, e, h.mono hk (fun _ _ h => h)⟩)
theorem OwnL.lrowsK {E : Nat} {H K : Hp} {v : Value} {xs : List (List Lit)} (h : OwnL E 1 H K LRowV v xs) (c : Cmp H K) : LRows (orHp H K) v xs := (h.mono (K' := orHp H K) (orC c)).sl orL (fun _ _ h => h)
end
section
def LRs (E : Nat) : List Hp → List Value → List (List Lit) → Prop
  | [], [], [] => True
  | P :: Ps, u :: us, r :: rs => OwnL E 3 P noHp LitV u r ∧ LRs E Ps us rs ∧ Apart P (uniHp Ps)
  | _, _, _ => False
def SepL (E : Nat) (K : Hp) (us : List Value) (xs : List (List Lit)) : Prop := ∃ Ps, K = uniHp Ps ∧ LRs E Ps us xs
theorem LRs.len {E : Nat} : ∀ {Ps : List Hp} {us : List Value} {xs : List (List Lit)}, LRs E Ps us xs → us.length = xs.length
  | [], [], [], _ => rfl
  | P :: Ps, r :: rs, c :: cs, h => by simp only [List.length_cons]; rw [h.2.1.len]
  | [], [], _ :: _, h => h.elim
  | [], _ :: _, _, h => h.elim
  | _ :: _, [], _, h => h.elim
  | _ :: _, _ :: _, [], h => h.elim
theorem SepL.len {E : Nat} {K : Hp} {us : List Value} {xs : List (List Lit)} (h : SepL E K us xs) : us.length = xs.length := by obtain ⟨Ps, _, h⟩ := h; exact h.len
theorem SepL.nil {E : Nat} : SepL E noHp [] [] := ⟨[], rfl, trivial⟩
/-- One clause alone, the others beside it. -/
theorem SepL.split {E : Nat} : ∀ {i : Nat} {K : Hp} {us : List Value} {xs : List (List Lit)}, SepL E K us xs → i < xs.length →
    ∃ Pi Ki, K = orHp Pi Ki ∧ Apart Pi Ki ∧ OwnL E 3 Pi noHp LitV (us.getD i undef) (xs.getD i []) ∧
      ∀ P' r', Apart P' Ki → OwnL E 3 P' noHp LitV (us.getD i undef) r' → SepL E (orHp P' Ki) us (xs.set i r')
  | i, K, us, [], h, hi => absurd hi (Nat.not_lt_zero _)
  | i, K, [], c :: cs, h, hi => by have := h.len; simp at this
  | 0, K, u :: us, c :: cs, h, _ => by
    obtain ⟨Ps, rfl, h⟩ := h
    match Ps, h with
    | P :: Ps, h => exact ⟨P, uniHp Ps, rfl, h.2.2, h.1, fun P' r' ap hp => ⟨P' :: Ps, rfl, hp, h.2.1, ap⟩⟩
  | i + 1, K, u :: us, c :: cs, h, hi => by
    obtain ⟨Ps, rfl, h⟩ := h
    match Ps, h with
    | P :: Ps, h =>
      obtain ⟨Pi, Ki, e, ap, hp, back⟩ := SepL.split (i := i) (K := uniHp Ps) ⟨Ps, rfl, h.2.1⟩ (by simpa using hi)
      have hP := h.2.2
      rw [e, apart_or] at hP
      refine ⟨Pi, orHp P Ki, ?_, apart_or.2 ⟨apart_symm hP.1, ap⟩, by simpa using hp, fun P' r' ap' hp' => ?_⟩
      · rw [uniHp, e, orHp_swap hP.1]
      · obtain ⟨ap1, ap2⟩ := apart_or.1 ap'
        obtain ⟨Ps', e', h'⟩ := back P' r' ap2 (by simpa using hp')
        refine ⟨P :: Ps', ?_, h.1, h', ?_⟩
        · rw [uniHp, ← e', orHp_swap ap1]
        · rw [← e']; exact apart_or.2 ⟨apart_symm ap1, hP.2⟩
theorem SepL.snoc {E : Nat} {K P : Hp} {us : List Value} {xs : List (List Lit)} {u : Value} {r : List Lit} (h : SepL E K us xs) (hp : OwnL E 3 P noHp LitV u r) (ap : Apart K P) : SepL E (orHp K P) (us ++ [u]) (xs ++ [r]) := by
  obtain ⟨Ps, rfl, h⟩ := h
  induction Ps generalizing us xs with
  | nil =>
    match us, xs, h with
    | [], [], _ => exact ⟨[P], by rw [uniHp, uniHp, uniHp, no_orHp, orHp_no], hp, trivial, apart_no _⟩
  | cons Q Ps ih =>
    match us, xs, h with
    | r0 :: rs, c0 :: cs, h =>
      obtain ⟨a1, a2⟩ := apart_orL.1 ap
      obtain ⟨Ps', e, h'⟩ := ih h.2.1 a2
      exact ⟨Q :: Ps', by rw [uniHp, uniHp, ← e, orHp_assoc], h.1, h', by rw [← e]; exact apart_or.2 ⟨h.2.2, a1⟩⟩
theorem SepL.at {E : Nat} {K : Hp} {us : List Value} {xs : List (List Lit)} (h : SepL E K us xs) {i : Nat} (hi : i < xs.length) : Lits K (us.getD i undef) (xs.getD i []) := by
  obtain ⟨Pi, Ki, e, _, hp, _⟩ := h.split hi
  rw [e]; exact Sl.mono hp.lits orL (fun _ _ h => h)
theorem LRs.liq {E : Nat} : ∀ {Ps : List Hp} {us : List Value} {xs : List (List Lit)}, LRs E Ps us xs → Liq (uniHp Ps)
  | [], _, _, _ => liq_no
  | P :: Ps, r :: rs, c :: cs, h => liq_or (OwnL.liq h.1) (LRs.liq h.2.1)
  | _ :: _, [], _, h => h.elim
  | _ :: _, _ :: _, [], h => h.elim
theorem SepL.liq {E : Nat} {K : Hp} {us : List Value} {xs : List (List Lit)} (h : SepL E K us xs) : Liq K := by obtain ⟨Ps, rfl, h⟩ := h; exact h.liq
/-- v, whose cells H holds, is a list of clauses (their slices: us), the clauses apart in K. -/
structure LMat (EH E : Nat) (H K : Hp) (v : Value) (us : List Value) (xs : List (List Lit)) : Prop where
  hd : OwnS EH 1 H v xs.length us
  sp : SepL E K us xs
section
variable {EH E : Nat} {H K : Hp} {v : Value} {us : List Value} {xs : List (List Lit)}
theorem LMat.ulen (h : LMat EH E H K v us xs) : us.length = xs.length := h.sp.len
theorem LMat.nil (h : OwnS EH 1 H v 0 []) : LMat EH E H noHp v [] [] := ⟨h, SepL.nil⟩
theorem LMat.push {H' P : Hp} {v' u : Value} {r : List Lit} (h : LMat EH E H K v us xs) (ho : OwnS EH 1 H' v' (xs.length + 1) (us ++ [u])) (hp : OwnL E 3 P noHp LitV u r) (ap : Apart K P) : LMat EH E H' (orHp K P) v' (us ++ [u]) (xs ++ [r]) :=
  ⟨by simpa using ho, h.sp.snoc hp ap⟩
theorem LMat.hlq (h : LMat EH E H K v us xs) : Liq H := by
  obtain ⟨_, _, h3⟩ := h.hd
  rcases h3 with ⟨_, _, _, rfl⟩ | ⟨b, c, cur, _, _, _, _, _, rfl⟩
  · exact fun b o hb => by cases hb
  · exact liq_sing
theorem LMat.lq (h : LMat EH E H K v us xs) : Liq K := h.sp.liq
theorem LMat.oneCell (h : LMat EH E H K v us xs) : v.oneCell' = true := h.hd.oneCell
theorem LMat.cells (h : LMat EH E H K v us xs) : v.cells = [v].toArray := h.hd.cells
theorem LMat.castX {ys : List (List Lit)} (e : xs = ys) (h : LMat EH E H K v us xs) : LMat EH E H K v us ys := e ▸ h
theorem LMat.clip {u : Value} (h : LMat EH E H K v us xs) (hc : ClipV v u xs.length) : LMat EH E H K u us xs := ⟨h.hd.clip hc, h.sp⟩
theorem LMat.rows {M : Hp} (h : LMat EH E H K v us xs) (h1 : ∀ b o, H b = some o → M b = some o) (h2 : ∀ b o, K b = some o → M b = some o) : LRows M v xs := by
  refine h.hd.sl (k := 1) (K := M) (R := SlC M 3 LitC) rfl h1 (fun i hi => ?_)
  have hu : i < us.length := by rw [h.ulen]; exact hi
  rw [Nat.mul_one, List.drop_eq_getElem_cons hu, List.take_succ_cons, List.take_zero]
  have h3 := h.sp.at hi
  have e1 : us.getD i undef = us[i] := by simp [List.getD, hu]
  have e2 : xs.getD i [] = xs[i] := by simp [List.getD, hi]
  rw [e1, e2] at h3
  exact ⟨us[i], rfl, Sl.mono h3 h2 (fun _ _ h => h)⟩
end
def LMatR (EH E : Nat) (Hq : Hp) (v : Value) (xs : List (List Lit)) : Prop := ∃ (H K : Hp) (us : List Value), Hq = orHp H K ∧ Apart H K ∧ LMat EH E H K v us xs
theorem LMatR.nil {EH E : Nat} : LMatR EH E (orHp noHp noHp) (.slice none 0 0) [] := ⟨noHp, noHp, [], rfl, fun _ => .inl rfl, LMat.nil OwnS.nil⟩
theorem LMatR.rows {EH E : Nat} {H : Hp} {v : Value} {xs : List (List Lit)} (h : LMatR EH E H v xs) : LRows H v xs := by
  obtain ⟨H1, K, us, rfl, ap, hm⟩ := h
  refine hm.rows orL (fun b o hb => ?_)
  have := (ap b).resolve_right (by rw [hb]; simp)
  simp [orHp, this, hb]
theorem LMatR.castX {EH E : Nat} {H : Hp} {v : Value} {xs ys : List (List Lit)} (e : xs = ys) (h : LMatR EH E H v xs) : LMatR EH E H v ys := e ▸ h
theorem lmR_rows {EH E : Nat} {H : Hp} {w : Value} {xs : List (List Lit)} {b : Bool} (h : ∃ u : Value, w = .tuple #[u, .bool b] ∧ LMatR EH E H u xs) : ∃ u : Value, w = .tuple #[u, .bool b] ∧ LRows H u xs := by
  obtain ⟨u, e, h⟩ := h; exact ⟨u, e, h.rows⟩
section ops
variable {C : Cx} {dr : Bool} {ops : Array Oper} {Q : Post} {ims L : List Hp} {G : Env} {fl : List Bool} {rest : List Oper} {d ty : Nat} {pos : String} {af : Array Edge}
variable {EH E i j : Nat} {H K : Hp} {v p u : Value} {us : List Value} {xs : List (List Lit)} {x y : Operand} {T E' by' : Nat} {z : Value}
theorem kl_lmLen {k' : Nat} [hT : IsSlice C.P T E' k' by' z] (hx : ev G x = some v) (hM : LMat EH E H K v us xs) (h : xs.length ≤ 140737488355328 → KL C dr ops Q ims L fl.tail rest ((d, .int .i64 (xs.length : Int)) :: G)) (hlt : Nat.blt d C.n = true := by rfl) :
    KL C dr ops Q ims L fl (⟨some d, .call ⟨.builtin .len, #[x], #[T]⟩, ty, pos, af, none⟩ :: rest) G := kl_lenO hx hM.hd h hlt
theorem kl_lmIx {i : Nat} [hT : IsSlice C.P T E' 1 by' z] (hx : ev G x = some v) (hy : ev G y = some (.int .i64 (i : Int))) (hM : LMat EH E H K v us xs) (h1 : i < xs.length)
    (h : ∀ p, PtrO v p i → KL C dr ops Q ims L fl.tail rest ((d, p) :: G)) (hlt : Nat.blt d C.n = true := by rfl) :
    KL C dr ops Q ims L fl (⟨some d, .indexAddr T x y, ty, pos, af, none⟩ :: rest) G :=
  kl_ixO hx hy hM.hd (by omega) (by omega) (fun p hp => h p (by simpa using hp)) hlt
theorem lmat_u (hM : LMat EH E H K v us xs) (hi : i < xs.length) : us[i]? = some (us.getD i undef) := by
  have := hM.ulen; simp [List.getD, show i < us.length by omega]
theorem kl_lmLde [hT : OneC C.P T] (hx : ev G x = some p) (hp : PtrO v p i) (hM : LMat EH E H K v us xs) [hI : In H ims] (hc : i < xs.length)
    (h : KL C dr ops Q ims L fl.tail rest ((d, us.getD i undef) :: G)) (hlt : Nat.blt d C.n = true := by rfl) : KL C dr ops Q ims L fl (⟨some d, .load T x, ty, pos, af, none⟩ :: rest) G :=
  kl_ldOe hx hp hM.hd (lmat_u hM hc) h hlt
/-! The fields of a literal in an owned list. -/
theorem kl_fdQ {x : Operand} {T f off : Nat} [hF : FieldC C.P T f off] (hx : ev G x = some p) (hp : PtrL 3 v p i)
    (h : ∀ p', PtrO v p' (i * 3 + off) → KL C dr ops Q ims L fl.tail rest ((d, p') :: G)) (hlt : Nat.blt d C.n = true := by rfl) : KL C dr ops Q ims L fl (⟨some d, .fieldAddr T x f, ty, pos, af, none⟩ :: rest) G := by
  obtain ⟨b, n, c, rfl, rfl⟩ := hp
  exact fV hx (h _ ⟨b, n, c, rfl, rfl⟩) hlt
def litCells (l : Lit) : List Value := [.int .i64 l.var, .int .i64 l.val, .bool l.neg]
theorem kl_stQ {H : Hp} {ls : List Lit} {F : Hp → List Hp} [hT : OneC C.P T] [hF : UpdF H L F] (l' : Lit) (hx : ev G x = some p) (hy : ev G y = some u) (o : OwnL E 3 H noHp LitV v ls) (hp : PtrO v p (i * 3 + j)) (hc : i < ls.length) (hj : j < 3) (h1 : u.oneCell' = true) (hu : u.cells = [u].toArray)
    (hr : litCells l' = (litCells (ls.getD i nilLit)).set j u)
    (h : ∀ H', OwnL E 3 H' noHp LitV v (ls.set i l') → (∀ B, Fr B H → Fr B H') → KL C dr ops Q ims (F H') fl.tail rest G) (hfl : fl.headD false = false := by rfl) (hdr : (!dr || rest.isEmpty) = true := by rfl) :
    KL C dr ops Q ims L fl (⟨none, .store T x y, ty, pos, af, none⟩ :: rest) G := by
  obtain ⟨cells, g1, g2⟩ := o
  have hl := g1.1
  have g3 : ∀ q (hq : q < ls.length), ∀ t, t < 3 → cells[q * 3 + t]? = (litCells ls[q])[t]? := fun q hq t ht => by
    have h3 : (cells.drop (q * 3)).take 3 = litCells ls[q] := g2 q hq
    rw [← h3, List.getElem?_take, if_pos ht, List.getElem?_drop]
  refine kl_stO hx hy hp g1 (by omega) h1 hu (fun H' ho hf => h H' ⟨_, by simpa using ho, fun q hq => ?_⟩ hf) hfl hdr
  have hq' : q < ls.length := by simpa using hq
  show (((cells.set (i * 3 + j) u).drop (q * 3)).take 3) = litCells (ls.set i l')[q]
  apply List.ext_getElem?
  intro t
  rw [List.getElem?_take, List.getElem?_drop]
  by_cases ht : t < 3
  · rw [if_pos ht, List.getElem?_set]
    by_cases e : i = q
    · subst e
      simp only [List.getElem_set_self]
      have e1 : ls.getD i nilLit = ls[i] := by simp [List.getD_eq_getElem?_getD, hc]
      rw [hr, e1, List.getElem?_set]
      by_cases e2 : j = t
      · subst e2; rw [if_pos rfl, if_pos (by omega), if_pos rfl, if_pos (by simpa [litCells] using hj)]
      · rw [if_neg (by omega), if_neg e2, g3 i hc t ht]
    · rw [if_neg (by omega), g3 q hq' t ht, List.getElem_set_ne e]
  · rw [if_neg ht, List.getElem?_eq_none (by simp [litCells]; omega)]
end ops
end
end Go.Proofs.YtolndgeihijlbaaGreat
