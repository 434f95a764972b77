/- Loops over a function that yields lists of integers: what the iterator promises, and the two sides of a round. Conditions: none. -/
import Derived.Test.YtojinjdobjodaaaGreatTre
namespace Go.Proofs.YtojinjdobjodaaaGreat
open Go
set_option linter.unusedSimpArgs false
set_option linter.unusedVariables false

/-- What a word on the world must bear while a call does what it likes to what is its own. -/
def JOk (j : (Nat → Prop) → World → Prop) : Prop :=
  ∀ {D D' : Nat → Prop} {w w' : World}, j D w → w.heap.size ≤ w'.heap.size → (∀ b, b < w.heap.size → ¬ D b → w'.heap[b]? = w.heap[b]?) → Io w w' → (∀ b, D' b → (D b ∨ w.heap.size ≤ b) ∧ b < w'.heap.size) → j D' w'
def Side.it (j : (Nat → Prop) → World → Prop) (ok : JOk j) : Side := ⟨0, fun _ => True, j, ok⟩
theorem cont_ex {D : Nat → Prop} {w : World} (h : ∀ b, D b → b < w.heap.size) : ∃ K : Hp, (∀ b, K b ≠ none ↔ D b) ∧ Agree K w := by
  classical
  refine ⟨fun b => if D b then w.heap[b]? else none, fun b => ?_, fun b o hb => ?_⟩
  · by_cases hd : D b
    · simp [hd, h b hd]
    · simp [hd]
  · by_cases hd : D b
    · simpa [hd] using hb
    · simp [hd] at hb

/-! ### The caller's state while the iterator runs -/
structure Car (B : World) (X : Side) (ims L : List Hp) (D : Nat → Prop) (w : World) : Prop where
  size : B.heap.size ≤ w.heap.size
  ext : ∀ b, b < B.heap.size → ¬ X.x b → w.heap[b]? = B.heap[b]?
  im : ∀ H ∈ ims, Agree H w
  own : ∀ H ∈ L, Agree H w ∧ (∀ b, H b ≠ none → B.heap.size ≤ b ∨ X.x b) ∧ ∀ I ∈ ims, Apart H I
  nd : L.Pairwise Apart
  io : Io B w
  j : X.j (fun b => dm B ims L b ∨ D b) w
  mrk : X.m ≤ w.heap.size
  lt : ∀ b, D b → B.heap.size ≤ b ∧ b < w.heap.size
  ap : ∀ b, D b → ∀ H, H ∈ ims ∨ H ∈ L → H b = none
section car
variable {B : World} {X : Side} {ims L : List Hp} {D D' : Nat → Prop} {w w' : World}
theorem St.lt (h : St B X ims L w) {b : Nat} (hb : dm B ims L b) : b < w.heap.size := dm_lt (B := B) h.im (fun H hH => (h.own H hH).1) hb
theorem Car.of (h : St B X ims L w) : Car B X ims L (fun _ => False) w :=
  ⟨h.size, h.ext, h.im, h.own, h.nd, h.io, X.ok h.j (Nat.le_refl _) (fun _ _ _ => rfl) (Io.refl _) (fun b hb => by
    rcases hb with hb | hb
    · exact ⟨.inl hb, h.lt hb⟩
    · exact hb.elim), h.mrk, fun _ h => h.elim, fun _ h => h.elim⟩
theorem Car.back (h : Car B X ims L (fun _ => False) w) : St B X ims L w :=
  ⟨h.size, h.ext, h.im, h.own, h.nd, h.io, X.ok h.j (Nat.le_refl _) (fun _ _ _ => rfl) (Io.refl _) (fun b hb => ⟨.inl (.inl hb), dm_lt (B := B) h.im (fun H hH => (h.own H hH).1) hb⟩), h.mrk⟩
theorem Car.ok (h : Car B X ims L D w) (hs : w.heap.size ≤ w'.heap.size) (he : ∀ b, b < w.heap.size → ¬ D b → w'.heap[b]? = w.heap[b]?) (hio : Io w w') (hd : ∀ b, D' b → (D b ∨ w.heap.size ≤ b) ∧ b < w'.heap.size) : Car B X ims L D' w' := by
  have keep : ∀ H, H ∈ ims ∨ H ∈ L → Agree H w → Agree H w' := fun H hH hA b o hb => by
    have hn : ¬ D b := fun hd => by rw [h.ap b hd H hH] at hb; cases hb
    rw [he b (hA.lt hb) hn]; exact hA b o hb
  refine ⟨Nat.le_trans h.size hs, fun b hb hx => ?_, fun H hH => keep H (.inl hH) (h.im H hH), fun H hH => ⟨keep H (.inr hH) (h.own H hH).1, (h.own H hH).2⟩, h.nd, h.io.trans hio, ?_, Nat.le_trans h.mrk hs, fun b hb => ?_, fun b hb H hH => ?_⟩
  · rw [he b (Nat.lt_of_lt_of_le hb h.size) (fun hd => by have := (h.lt b hd).1; omega)]; exact h.ext b hb hx
  · refine X.ok h.j hs (fun b hb hn => he b hb (fun hd => hn (.inr hd))) hio (fun b hb => ?_)
    rcases hb with hb | hb
    · exact ⟨.inl (.inl hb), Nat.lt_of_lt_of_le (dm_lt (B := B) h.im (fun H hH => (h.own H hH).1) hb) hs⟩
    · exact ⟨(hd b hb).1.imp .inr id, (hd b hb).2⟩
  · rcases (hd b hb).1 with h1 | h1
    · exact ⟨(h.lt b h1).1, (hd b hb).2⟩
    · exact ⟨Nat.le_trans h.size h1, (hd b hb).2⟩
  · rcases (hd b hb).1 with h1 | h1
    · exact h.ap b h1 H hH
    · cases hh : H b with
      | none => rfl
      | some o =>
        have hA : Agree H w := by
          rcases hH with hH | hH
          · exact h.im H hH
          · exact (h.own H hH).1
        exact absurd (hA.lt hh) (Nat.not_lt.2 h1)
theorem Car.enter (h : Car B X ims L D w) {K : Hp} (hK : ∀ b, K b ≠ none ↔ D b) (hA : Agree K w) : St B (X.mark w.heap.size) (K :: ims) L w :=
  ⟨h.size, h.ext, fun H hH => by
      cases hH with
      | head => exact hA
      | tail _ hH => exact h.im H hH,
   fun H hH => ⟨(h.own H hH).1, (h.own H hH).2.1, fun I hI => by
      cases hI with
      | head =>
        intro b
        by_cases hb : K b = none
        · exact .inr hb
        · exact .inl (h.ap b ((hK b).1 hb) H (.inr hH))
      | tail _ hI => exact (h.own H hH).2.2 I hI⟩, h.nd, h.io, X.ok h.j (Nat.le_refl _) (fun _ _ _ => rfl) (Io.refl _) (fun b hb => by
      rcases hb with hb | ⟨hB, H, hH, hb⟩
      · exact ⟨.inl (.inl (.inl hb)), dm_lt (B := B) h.im (fun H hH => (h.own H hH).1) (.inl hb)⟩
      · cases hH with
        | head => exact ⟨.inl (.inr ((hK b).1 hb)), (h.lt b ((hK b).1 hb)).2⟩
        | tail _ hH => exact ⟨.inl (.inl (.inr ⟨hB, H, hH, hb⟩)), dm_lt (B := B) h.im (fun H hH => (h.own H hH).1) (.inr ⟨hB, H, hH, hb⟩)⟩), Nat.le_refl _⟩
theorem Car.leave {K : Hp} {m : Nat} (h : St B (X.mark m) (K :: ims) L w) (hm : X.m ≤ m) (hK : ∀ b, K b ≠ none ↔ D b) (hB : ∀ b, D b → B.heap.size ≤ b) (hap : ∀ b, D b → ∀ H ∈ ims, H b = none) : Car B X ims L D w :=
  ⟨h.size, h.ext, fun H hH => h.im H (.tail _ hH), fun H hH => ⟨(h.own H hH).1, (h.own H hH).2.1, fun I hI => (h.own H hH).2.2 I (.tail _ hI)⟩, h.nd, h.io,
   X.ok h.j (Nat.le_refl _) (fun _ _ _ => rfl) (Io.refl _) (fun b hb => by
      have : dm B (K :: ims) L b := by
        rcases hb with (hb | ⟨hb, H, hH, hh⟩) | hb
        · exact .inl hb
        · exact .inr ⟨hb, H, .tail _ hH, hh⟩
        · exact .inr ⟨hB b hb, K, .head _, (hK b).2 hb⟩
      exact ⟨.inl this, h.lt this⟩), Nat.le_trans hm h.mrk,
   fun b hb => ⟨hB b hb, by
      cases hh : K b with
      | none => exact absurd hh ((hK b).2 hb)
      | some o => exact (h.im K (.head _)).lt hh⟩,
   fun b hb H hH => by
      rcases hH with hH | hH
      · exact hap b hb H hH
      · exact ((h.own H hH).2.2 K (.head _) b).resolve_right ((hK b).2 hb)⟩
/-- An object of the caller's turns. -/
theorem Car.turn {b : Nat} {o o' : Obj} (h : Car B X ims (sing b o :: L) D w) : Car B X ims (sing b o' :: L) D (w.putObj b o') := by
  have hA : w.heap[b]? = some o := (h.own _ (.head _)).1 b o (sing_self b o)
  have hlt : b < w.heap.size := (Array.getElem?_eq_some_iff.1 hA).1
  have hother : ∀ k, k ≠ b → (w.putObj b o').heap[k]? = w.heap[k]? := fun k hk => World.putObj_heap_other hk
  have hs : (w.putObj b o').heap.size = w.heap.size := World.putObj_size
  have hdm : ∀ k, dm B ims (sing b o' :: L) k → dm B ims (sing b o :: L) k := fun k hk => by
    rcases hk with ⟨K, hK, hb⟩ | hk
    · cases hK with
      | head =>
        refine .inl ⟨sing b o, .head _, ?_⟩
        by_cases e : k = b
        · subst e; simp
        · simp [sing, e] at hb
      | tail _ hK => exact .inl ⟨K, .tail _ hK, hb⟩
    · exact .inr hk
  have keep : ∀ K, Apart K (sing b o) → Agree K w → Agree K (w.putObj b o') := fun K ha hK k o2 hk => by
    have hne : k ≠ b := fun e => by
      subst e
      rcases ha k with h1 | h1
      · rw [h1] at hk; cases hk
      · simp at h1
    rw [hother k hne]; exact hK k o2 hk
  have hap : ∀ K, K ∈ L → Apart K (sing b o) := fun K hK k => ((List.pairwise_cons.1 h.nd).1 K hK k).symm
  have hap' : ∀ K, Apart K (sing b o) → Apart K (sing b o') := fun K ha k => by
    rcases ha k with h1 | h1
    · exact .inl h1
    · right
      by_cases e : k = b
      · subst e; simp at h1
      · simp [sing, e]
  refine ⟨by rw [hs]; exact h.size, fun k hk hx => ?_, fun I hI => ?_, fun K hK => ?_, ?_, h.io.trans ⟨rfl, rfl⟩, ?_, by rw [hs]; exact h.mrk, fun k hk => by rw [hs]; exact h.lt k hk, fun k hk K hK => ?_⟩
  · by_cases e : k = b
    · subst e
      rcases (h.own _ (.head _)).2.1 k (by simp) with h1 | h1
      · omega
      · exact absurd h1 hx
    · rw [hother k e]; exact h.ext k hk hx
  · exact keep I (fun k => ((h.own _ (.head _)).2.2 I hI k).symm) (h.im I hI)
  · cases hK with
    | head =>
      refine ⟨fun k o2 hk => ?_, fun k hk => ?_, fun I hI k => ?_⟩
      · obtain ⟨rfl, rfl⟩ := sing_some hk
        exact World.putObj_heap_same hlt
      · by_cases e : k = b
        · subst e; exact (h.own _ (.head _)).2.1 k (by simp)
        · simp [sing, e] at hk
      · exact (hap' I (fun k => ((h.own _ (.head _)).2.2 I hI k).symm) k).symm
    | tail _ hK => exact ⟨keep K (hap K hK) (h.own K (.tail _ hK)).1, (h.own K (.tail _ hK)).2.1, (h.own K (.tail _ hK)).2.2⟩
  · exact List.pairwise_cons.2 ⟨fun K hK k => (hap' K (hap K hK) k).symm, (List.pairwise_cons.1 h.nd).2⟩
  · refine X.ok h.j (by rw [hs]; exact Nat.le_refl _) (fun k hk hn => ?_) ⟨rfl, rfl⟩ (fun k hk => ?_)
    · refine hother k (fun e => hn (.inl (.inl ⟨sing b o, .head _, ?_⟩)))
      subst e; simp
    · rw [hs]
      rcases hk with hk | hk
      · exact ⟨.inl (.inl (hdm k hk)), dm_lt (B := B) h.im (fun H hH => (h.own H hH).1) (hdm k hk)⟩
      · exact ⟨.inl (.inr hk), (h.lt k hk).2⟩
  · have h0 : sing b o k = none := h.ap k hk _ (.inr (.head _))
    rcases hK with hK | hK
    · exact h.ap k hk K (.inl hK)
    · cases hK with
      | head =>
        by_cases e : k = b
        · subst e; simp at h0
        · simp [sing, e]
      | tail _ hK => exact h.ap k hk K (.inr (.tail _ hK))
end car

/-! ### The iterator's contract -/
/-- One call of yield, seen by the iterator: what is its own (K) lies as it lay. -/
def Yields (P : Program) (l : Nat) (ims : List Hp) (K : Hp) (v : Value) (j jx : World → Prop) (W : World) : Prop :=
  YieldAt (FW none) 0 P l #[v] W (fun e W' => W.heap.size ≤ W'.heap.size ∧ Io W W' ∧ Agree K W' ∧ (∀ I ∈ ims, Agree I W') ∧ ((e = .returned (.bool true) ∧ j W') ∨ (e = .returned (.bool false) ∧ jx W')))
/-- What the rounds give, n rounds gone: whatever the iterator's own memory, so long as v reads as the n-th list. -/
def Rounds (P : Program) (l : Nat) (ims : List Hp) (xs : List (List Int)) (J : Nat → (Nat → Prop) → World → Prop) (Jx : (Nat → Prop) → World → Prop) : Prop :=
  ∀ n, n < xs.length → ∀ D W K v, J n D W → (∀ b, K b ≠ none ↔ D b) → Agree K W → Ints K v (xs.getD n []) → Yields P l ims K v (J (n + 1) D) (Jx D) W
/-- Called at yield, the function yields xs, in order, and ends as soon as yield says so. -/
def ItSpec (P : Program) (g : Nat) (caps : List Value) (ims : List Hp) (xs : List (List Int)) : Prop :=
  ∀ (l : Nat) (J : Nat → (Nat → Prop) → World → Prop) (Jx : (Nat → Prop) → World → Prop), (∀ n, JOk (J n)) → JOk Jx → Rounds P l ims xs J Jx →
    ∀ W, (∀ I ∈ ims, Agree I W) → J 0 (fun _ => False) W →
      Calls P g (Value.func (.yield l) #[] #[] :: caps).toArray W (fun e W' => ∃ v, e = .returned v ∧ (J xs.length (fun _ => False) W' ∨ Jx (fun _ => False) W'))

/-! ### The caller's side -/
def rdy (l : Nat) (r : Loop) : Hp := sing l (.loop { r with state := .ready, pending := none })
def bsy (l : Nat) (r : Loop) : Hp := sing l (.loop { r with state := .busy, pending := none })
def dne (l : Nat) (r : Loop) (c : Code) : Hp := sing l (.loop { r with state := .done, pending := some c })
def dfb (b : Nat) : Hp := sing b (.deferred (some []))
/-- How a round's body may be left. -/
def RPost {A : Type} (B : World) (X : Side) (ims : List Hp) (Lf : A → List Hp) (inv : A → Prop) (invx : Code → A → Prop) (Hb : Hp) : Post
  | .normal, _, w => ∃ s, inv s ∧ St B X ims (Hb :: Lf s) w
  | .ret, _, w => ∃ s, invx .ret s ∧ St B X ims (Hb :: Lf s) w
  | .exit id, _, w => ∃ s, invx (.exit id) s ∧ St B X ims (Hb :: Lf s) w
  | _, _, _ => False
/-- Behind the assignment to the loop's variable: the round begins. -/
def AP (C : Cx) (l : Nat) (Qb : Post) (body : Code) : Post := fun e a w => e = .normal ∧ ∃ w₂, (Instr.beginRound l).run C.P w = .ok () w₂ ∧ body.wpIn (FW C.R) 0 C.P Qb a w₂
theorem St.put {B : World} {X : Side} {ims L L' : List Hp} {w : World} {b : Nat} {o o' : Obj} (h : St B X ims L w) [u : Upd (sing b o) (sing b o') L L'] : St B X ims L' (w.putObj b o') := by
  have hA : w.heap[b]? = some o := (h.own _ u.u.mem).1 b o (sing_self b o)
  have hlt : b < w.heap.size := (Array.getElem?_eq_some_iff.1 hA).1
  refine h.upd (H := sing b o) (H' := sing b o') (u := u) (by rw [World.putObj_size]; exact Nat.le_refl _) (fun k _ hk => World.putObj_heap_other (fun e => by subst e; simp at hk)) (fun k o2 hk => ?_) (fun k hk => .inl ?_) ⟨rfl, rfl⟩
  · obtain ⟨rfl, rfl⟩ := sing_some hk
    exact World.putObj_heap_same hlt
  · by_cases e : k = b
    · subst e; simp
    · simp [sing, e] at hk
section rounds
variable {C : Cx} {ims L L' : List Hp} {G : Env} {l : Nat} {r : Loop}
theorem kq_begin {Qb : Post} {body : Code} [u : Upd (rdy l r) (bsy l r) L L'] (h : KC C Qb ims L' body G) : KQ C ims L G (AP C l Qb body .normal) := fun a w hf hs => by
  have hl : w.heap[l]? = some (.loop { r with state := .ready, pending := none }) := (hs.own _ u.u.mem).1 _ _ (sing_self _ _)
  exact ⟨rfl, _, run_beginRound hl rfl, h a _ hf (hs.put (u := u))⟩
variable {A : Type} {ims0 : List Hp} {Lf : A → List Hp} {inv : A → Prop} {invx : Code → A → Prop} {Hb : Hp}
theorem kq_rend (s : A) (hs : inv s) {L0 : List Hp} (hl : L0 = Hb :: Lf s) (hi : AllIn ims0 ims) (hL : List.Sublist L0 L) : KQ C ims L G (RPost C.B C.X ims0 Lf inv invx Hb .normal) :=
  fun _ _ _ h => ⟨s, hs, by subst hl; exact h.weak (i := hi) hL⟩
end rounds

section caller
variable {A : Type} {P : Program} {n : Nat} {B : World} {X : Side} {Q : Post} {ims : List Hp} {G G0 : Env}
/-- for x := range g { .. }, in a function that is no round itself. -/
theorem kc_range {g : Operand} {p gf : Nat} {lb : Array Value} {ims' : List Hp} {xs : List (List Int)} {assign body : Code} (Lf : A → List Hp) (inv : Nat → A → Prop) (invx : Code → A → Prop) (s0 : A)
    (hg : ev G g = some (.func (.func gf) #[] lb)) [hb : FnC P gf] (hit : ItSpec P gf lb.toList ims' xs) [hi : AllIn ims' ims] (hp : Pick G G0) (hlt : Nat.blt p n = true) {L : List Hp} (hl : L = Lf s0) (h0 : inv 0 s0)
    (round : ∀ (l m D : Nat) (r : Loop) (Hit : Hp) (v : Value) (k : Nat) (s : A), k < xs.length → inv k s → Ints Hit v (xs.getD k []) →
      KC ⟨P, n, B, X.mark m, false, [], some l⟩ (AP ⟨P, n, B, X.mark m, false, [], some l⟩ l (RPost B (X.mark m) (Hit :: dfb D :: ims) Lf (inv (k + 1)) invx (bsy l r)) body)
        (Hit :: dfb D :: ims) (rdy l r :: Lf s) assign ((p, v) :: G0))
    (done : ∀ (D : Nat) (s : A), B.heap.size ≤ D → inv xs.length s → KQ ⟨P, n, B, X, false, [{ target := .collected D, args := #[] }], none⟩ (dfb D :: ims) (Lf s) G0 (Q .normal))
    (stop : ∀ (D : Nat) (c : Code) (s : A), B.heap.size ≤ D → invx c s → KC ⟨P, n, B, X, false, [{ target := .collected D, args := #[] }], none⟩ Q (dfb D :: ims) (Lf s) c G0) :
    KC ⟨P, n, B, X, false, [], none⟩ Q ims L (.rangeFunc g #[p] assign body) G := fun a w hf hs => by
  subst hl
  refine wpIn_rangeFunc (F := FW none) ?_
  intro fn _
  obtain ⟨r, hr⟩ : ∃ r : Loop, r = { state := .ready, pending := none, fn, tmps := a.tmps, params := #[p], assign, body, defers := w.heap.size } := ⟨_, rfl⟩
  have hrr : ({ r with state := .ready, pending := none } : Loop) = r := by rw [hr]
  have hs1 : St B X ims (dfb w.heap.size :: Lf s0) (w.alloc (.deferred (some []))) := hs.push (ext_alloc w _) (agree_alloc w _) (fresh_sing (B := w) (Nat.le_refl _))
  have hs2 : St B X (dfb w.heap.size :: ims) (Lf s0) (w.alloc (.deferred (some []))) := hs1.freeze
  have hsz : (w.alloc (.deferred (some []))).heap.size = w.heap.size + 1 := by simp
  obtain ⟨W1, hW1⟩ : ∃ W1, (w.alloc (.deferred (some []))).alloc (.loop r) = W1 := ⟨_, rfl⟩
  have hs3 : St B X (dfb w.heap.size :: ims) (rdy (w.heap.size + 1) r :: Lf s0) W1 := by
    rw [← hW1]
    unfold rdy
    rw [hrr]
    have := hs2.push (ext_alloc _ (.loop r)) (agree_alloc _ (.loop r)) (fresh_sing (B := w.alloc (.deferred (some []))) (Nat.le_refl _))
    rw [hsz] at this
    exact this
  have hgv : a.eval g = .func (.func gf) #[] lb := hf.ev hg
  refine ⟨w.heap.size + 1, [{ target := .collected w.heap.size, args := #[] }], W1, { target := .fn (.func gf) lb, args := #[.func (.yield (w.heap.size + 1)) #[] #[]] }, W1, gf,
    #[.func (.yield (w.heap.size + 1)) #[] #[]] ++ lb, W1, ?_, ?_, ?_, ?_, fun e => (by cases e), ?_⟩
  · rw [← hW1, hr]; exact run_enterLoop_outer _ _ _ _ _
  · simp only [resolve, hgv]
    simp [go_sem]
  · intro f' _; trivial
  · simp [invoke, go_sem, hb.run]
  · have hargs : (#[Value.func (.yield (w.heap.size + 1)) #[] #[]] ++ lb) = (Value.func (.yield (w.heap.size + 1)) #[] #[] :: lb.toList).toArray := by
      apply Array.ext'; simp
    rw [hargs]
    refine calls_FW ((hit (w.heap.size + 1)
      (fun k D W => ∃ s, inv k s ∧ Car B X (dfb w.heap.size :: ims) (rdy (w.heap.size + 1) r :: Lf s) D W)
      (fun D W => ∃ c s, invx c s ∧ Car B X (dfb w.heap.size :: ims) (dne (w.heap.size + 1) r c :: Lf s) D W)
      (fun k {D D' w w'} h hs he hio hd => by obtain ⟨s, h1, h2⟩ := h; exact ⟨s, h1, h2.ok hs he hio hd⟩)
      (fun {D D' w w'} h hs he hio hd => by obtain ⟨c, s, h1, h2⟩ := h; exact ⟨c, s, h1, h2.ok hs he hio hd⟩) ?_ W1 (fun I hI => hs3.im I (.tail _ (hi.all I hI))) ⟨s0, h0, Car.of hs3⟩).mono ?_)
    · -- a round
      rintro k hk D W K v ⟨s, hinv, hc⟩ hK hA hv
      have hst := hc.enter hK hA
      have hl : W.heap[w.heap.size + 1]? = some (.loop r) := by
        have := (hst.own _ (.head _)).1 (w.heap.size + 1) (.loop { r with state := .ready, pending := none }) (sing_self _ _)
        rw [hrr] at this; exact this
      have hy := run_yield (P := P) (args := #[v]) hl (by rw [hr]; rfl)
      rw [show r.params = #[p] by rw [hr], show r.fn = fn by rw [hr], show r.assign = assign by rw [hr], show r.body = body by rw [hr], show r.tmps = a.tmps by rw [hr]] at hy
      refine ⟨fn, _, assign, body, hy, roundIn_of_wpIn (F := FW none) trivial ?_⟩
      have hfit : Fit (n, []) ((p, v) :: G0) { tmps := (((#[p] : Array Tmp).zip #[v]).foldl (fun tmps (t, a) => tmps.setIfInBounds t a) a.tmps), defers := [] } := by
        have h1 : Fit (n, []) G0 { tmps := a.tmps, defers := [] } := by
          have := hp.fit hf
          exact ⟨rfl, this.size, this.get⟩
        have h2 := h1.put (d := p) (v := v) (by simpa [Nat.blt_eq] using hlt)
        have e : ((#[p] : Array Tmp).zip #[v]) = #[(p, v)] := by simp
        rw [e]
        simpa [Act.put] using h2
      refine wpIn_mono (round (w.heap.size + 1) W.heap.size w.heap.size r K v k s hk hinv hv _ W hfit hst) ?_
      rintro e a₁ w₁ ⟨rfl, w₂, hbeg, hbody⟩
      refine ⟨w₂, hbeg, wpIn_mono hbody ?_⟩
      have hB : ∀ b, D b → B.heap.size ≤ b := fun b hb => (hc.lt b hb).1
      have hap : ∀ b, D b → ∀ H ∈ (dfb w.heap.size :: ims), H b = none := fun b hb H hH => hc.ap b hb H (.inl hH)
      have fin : ∀ (jump : Option Code) (s' : A) (W3 : World), St B (X.mark W.heap.size) (K :: dfb w.heap.size :: ims) (bsy (w.heap.size + 1) r :: Lf s') W3 →
          ∃ W4, (Instr.endRound (w.heap.size + 1) jump).run P W3 = .ok (.bool jump.isNone) W4 ∧ W.heap.size ≤ W4.heap.size ∧ Io W W4 ∧ Agree K W4 ∧ (∀ I ∈ ims', Agree I W4) ∧
            Car B X (dfb w.heap.size :: ims) (sing (w.heap.size + 1) (.loop { r with state := if jump.isNone then .ready else .done, pending := jump }) :: Lf s') D W4 := fun jump s' W3 h3 => by
        have hl3 : W3.heap[w.heap.size + 1]? = some (.loop { r with state := .busy, pending := none }) := (h3.own _ (.head _)).1 _ _ (sing_self _ _)
        have h4 : St B (X.mark W.heap.size) (K :: dfb w.heap.size :: ims) (sing (w.heap.size + 1) (.loop { r with state := if jump.isNone then .ready else .done, pending := jump }) :: Lf s') _ := h3.put (u := ⟨.head _⟩)
        refine ⟨_, run_endRound (P := P) jump hl3, h4.mrk, ⟨h4.io.1.trans hst.io.1.symm, h4.io.2.trans hst.io.2.symm⟩, h4.im K (.head _), fun I hI => h4.im I (.tail _ (.tail _ (hi.all I hI))), ?_⟩
        exact Car.leave h4 hc.mrk hK hB hap
      rintro e a3 W3 hpost
      cases e with
      | normal =>
        obtain ⟨s', hi', h3⟩ := hpost
        obtain ⟨W4, h1, h2, h3', h4, h5, h6⟩ := fin none s' W3 h3
        exact ⟨_, W4, h1, h2, h3', h4, h5, .inl ⟨rfl, s', hi', h6⟩⟩
      | ret =>
        obtain ⟨s', hi', h3⟩ := hpost
        obtain ⟨W4, h1, h2, h3', h4, h5, h6⟩ := fin (some .ret) s' W3 h3
        exact ⟨_, W4, h1, h2, h3', h4, h5, .inr ⟨rfl, .ret, s', hi', h6⟩⟩
      | exit id =>
        obtain ⟨s', hi', h3⟩ := hpost
        obtain ⟨W4, h1, h2, h3', h4, h5, h6⟩ := fin (some (.exit id)) s' W3 h3
        exact ⟨_, W4, h1, h2, h3', h4, h5, .inr ⟨rfl, .exit id, s', hi', h6⟩⟩
      | goto t => exact hpost.elim
      | panic ch => exact hpost.elim
      | outgrown => exact hpost.elim
    · -- behind the iterator
      have hfit : Fit (n, [{ target := .collected w.heap.size, args := #[] }]) G0 { a with defers := [{ target := .collected w.heap.size, args := #[] }] ++ a.defers } := by
        have := hp.fit hf
        exact ⟨by simp [hf.defers, Cx.m], this.size, this.get⟩
      rintro e W2 ⟨v, rfl, (⟨s, hi', hc⟩ | ⟨c, s, hi', hc⟩)⟩
      · have hst := hc.back
        have hl : W2.heap[w.heap.size + 1]? = some (.loop { r with state := .ready, pending := none }) := (hst.own _ (.head _)).1 _ _ (sing_self _ _)
        refine ⟨none, _, run_endLoop (P := P) hl (by simp), ?_⟩
        have h4 : St B X (dfb w.heap.size :: ims) (sing (w.heap.size + 1) (.loop { r with state := .exhausted, pending := none }) :: Lf s) _ := hst.put (u := ⟨.head _⟩)
        exact done _ s hs.size hi' _ _ hfit h4.dropL
      · have hst := hc.back
        have hl : W2.heap[w.heap.size + 1]? = some (.loop { r with state := .done, pending := some c }) := (hst.own _ (.head _)).1 _ _ (sing_self _ _)
        refine ⟨some c, _, run_endLoop (P := P) hl (by simp), ?_⟩
        have h4 : St B X (dfb w.heap.size :: ims) (sing (w.heap.size + 1) (.loop { r with state := .exhausted, pending := some c }) :: Lf s) _ := hst.put (u := ⟨.head _⟩)
        exact stop _ c s hs.size hi' _ _ hfit h4.dropL
end caller
end Go.Proofs.YtojinjdobjodaaaGreat
namespace Go.Proofs.YtojinjdobjodaaaGreat
open Go
set_option linter.unusedSimpArgs false
set_option linter.unusedVariables false
def slotRun (tmps : Array Value) : ResultVar → Sem Value
  | .tmp t => pure (tmps.getD t undef)
  | .cell a t => do loadVar t (← asAddr (tmps.getD a undef))
/-- What a result's slot holds. -/
def RS (P : Program) (L : List Hp) (G : Env) (s : ResultVar) (v : Value) : Prop :=
  ∀ {n : Nat × List Deferred} {B : World} {X : Side} {ims : List Hp} (a : Act) (w : World), Fit n G a → St B X ims L w → (slotRun a.tmps s).run P w = .ok v w
theorem rs_tmp {P : Program} {L : List Hp} {G : Env} {t : Nat} {v : Value} (hv : look t G = some v) : RS P L G (.tmp t) v := fun a w hf _ => by
  simp only [slotRun, Sem.run_pure, (hf.get t v hv).2]
theorem rs_agg {P : Program} {L : List Hp} {G : Env} {c T b E k : Nat} {cs : List Value} {F : List Value → List Hp} [hT : AggC P T k] [hF : BoxF b cs E L F] (hv : look c G = some (.pointer (some ⟨b, 0, none⟩))) (hk : Nat.beq cs.length k = true) :
    RS P L G (.cell c T) (.agg cs.toArray) := fun a w hf hs => by
  have hA := (hs.own _ (hF.u cs).mem).1
  have hat : At (sing b (.cells cs.toArray E (0, 0))) (.pointer (some ⟨b, 0, none⟩)) cs := At.sing (cs := cs.toArray)
  have hc := loadCells_at (P := P) hA hat
  rw [Nat.eq_of_beq_eq_true hk] at hc
  have h1 : (loadVar T ⟨b, 0, none⟩).run P w = .ok (.agg cs.toArray) w := by
    simp only [loadVar, Sem.run_bind, Sem.run_pure, Result.andThen_ok, AggC.run, sizeOf_run hT.i, hc, if_true]
  have h2 : a.tmps.getD c undef = .pointer (some ⟨b, 0, none⟩) := (hf.get c _ hv).2
  simp only [slotRun, h2, asAddr, Sem.run_bind, Sem.run_pure, Result.andThen_ok, h1]
def RSs (P : Program) (L : List Hp) (G : Env) (fn : Func) (v : Value) : Prop :=
  ∀ {n : Nat × List Deferred} {B : World} {X : Side} {ims : List Hp} (a : Act) (w : World), Fit n G a → St B X ims L w → (results fn a.tmps).run P w = .ok v w
theorem results_eq (fn : Func) (tmps : Array Value) : results fn tmps = (do
    let vs ← fn.results.mapM (slotRun tmps)
    pure (if h : vs.size = 1 then vs[0] else .tuple vs)) := by
  have e : (fun s : ResultVar => match s with
    | .tmp t => (pure (tmps.getD t undef) : Sem Value)
    | .cell a t => do loadVar t (← asAddr (tmps.getD a undef))) = slotRun tmps := by
    funext s; cases s <;> rfl
  rw [← e]; rfl
theorem rss1 {P : Program} {L : List Hp} {G : Env} {fn : Func} {s : ResultVar} {v : Value} (hr : fn.results = #[s]) (h : RS P L G s v) : RSs P L G fn v := fun a w hf hs => by
  have h1 := h a w hf hs
  rw [results_eq, hr]
  simp [h1]
theorem rss2 {P : Program} {L : List Hp} {G : Env} {fn : Func} {s t : ResultVar} {u v : Value} (hr : fn.results = #[s, t]) (h : RS P L G s u) (k : RS P L G t v) : RSs P L G fn (.tuple #[u, v]) := fun a w hf hs => by
  have h1 := h a w hf hs
  have h2 := k a w hf hs
  rw [results_eq, hr]
  simp [h1, h2]

/-- The mark of a loop over a function is shut. -/
theorem St.shut {B : World} {X : Side} {ims L : List Hp} {w : World} {D : Nat} (h : St B X ims L w) [i : In (dfb D) ims] (hB : B.heap.size ≤ D) : St B X [] L (w.putObj D (.deferred none)) := by
  have hA : w.heap[D]? = some (.deferred (some [])) := h.im _ i.mem D _ (sing_self _ _)
  have hD : dm B ims L D := .inr ⟨hB, dfb D, i.mem, by simp [dfb]⟩
  have hother : ∀ k, k ≠ D → (w.putObj D (.deferred none)).heap[k]? = w.heap[k]? := fun k hk => World.putObj_heap_other hk
  refine h.turn (by rw [World.putObj_size]; exact Nat.le_refl _) (fun b _ hn => hother b (fun e => hn (e ▸ hD))) ⟨rfl, rfl⟩ (fun b hb => .inl ?_) (fun b hb hx => ?_) (fun _ h => by cases h) (fun K hK => ⟨fun b o hb => ?_, (h.own K hK).2.1, fun _ h => by cases h⟩) h.nd
  · rcases hb with hb | ⟨_, _, hb, _⟩
    · exact .inl hb
    · cases hb
  · rw [hother b (by omega)]; exact h.ext b hb hx
  · have hne : b ≠ D := fun e => by
      subst e
      rcases (h.own K hK).2.2 _ i.mem b with h1 | h1
      · rw [h1] at hb; cases hb
      · simp [dfb] at h1
    rw [hother b hne]; exact (h.own K hK).1 b o hb
/-- The marks that are pushed: none, or one that is at hand. -/
inductive DfOk (B : World) (ims : List Hp) : List Deferred → Prop
  | none : DfOk B ims []
  | one {D : Nat} (hB : B.heap.size ≤ D) (hi : dfb D ∈ ims) : DfOk B ims [{ target := .collected D, args := #[] }]
theorem df1 {B : World} {ims : List Hp} {D : Nat} (hB : B.heap.size ≤ D) [i : In (dfb D) ims] : DfOk B ims [{ target := .collected D, args := #[] }] := .one hB i.mem
section rets
variable {P : Program} {n : Nat} {B : World} {ims L : List Hp} {G : Env} {fn : Func} {phi : Hp → Value → Prop} {df : List Deferred}
theorem kq_retR {v : Value} (hr : RSs P L G fn v) (H : Hp) [hg : Got H ims L] (hf : Fr B H) (hp : phi H v) (hd : DfOk B ims df) :
    KQ ⟨P, n, B, noS, false, df, none⟩ ims L G (bodyPostM (FW none) 0 P fn (Res B phi) .ret) := fun a w hF hS => by
  show LeavesInM (FW none) 0 P fn a.tmps (Res B phi) a.defers .returning w
  cases hd with
  | none =>
    rw [show a.defers = [] from hF.defers]
    exact ⟨v, hr a w hF hS, hS.toExt, H, hg.g hS, hf, hp⟩
  | one hB hi =>
    rename_i D
    rw [show a.defers = [{ target := .collected D, args := #[] }] from hF.defers]
    have i : In (dfb D) ims := ⟨hi⟩
    have hS2 := hS.shut hB
    have hA : w.heap[D]? = some (.deferred (some [])) := hS.im _ hi D _ (sing_self _ _)
    refine ⟨by simp, .inl ⟨D, _, rfl, run_takeDeferred hA, v, hr a _ hF hS2, hS2.toExt, H, fun b o hb => ?_, hf, hp⟩⟩
    have hAH := hg.g hS
    have hne : b ≠ D := fun e => by
      subst e
      obtain ⟨cs, T, e⟩ := hf.2 b o hb
      have := hAH b o hb
      rw [hA] at this; subst e; cases this
    rw [World.putObj_heap_other hne]; exact hAH b o hb
theorem spec_ofR {f : FuncId} {c : Code} {vs : List Value} (hf : P.funcs[f]? = some fn) (hb : fn.body = some c) (hn : fn.ntmps = n) (hle : Nat.ble vs.length n = true)
    (h : ∀ B, KC ⟨P, n, B, noS, false, [], none⟩ (bodyPostM (FW none) 0 P fn (Res B phi)) ims [] c (pars 0 vs)) : Spec P f vs ims phi := fun w hA => by
  refine calls_of_FW (R := none) (n := 0) (callsIn_of_wp_marks hf hb trivial ?_ rfl)
  rw [hn]
  exact h w _ w (fit_pars (Nat.le_of_ble_eq_true hle)) (St.init hA)
end rets
end Go.Proofs.YtojinjdobjodaaaGreat
namespace Go.Proofs.YtojinjdobjodaaaGreat
open Go
end Go.Proofs.YtojinjdobjodaaaGreat
