/- The base of the walks: judgements over frames of which some slots are known, heaplets, and one law for each operation. Conditions: none. -/
import Derived.Test.YtcdemjjgmnbkfaaChecked
import Derived.OrdersHeld
import Derived.Tactics
import Derived.Deep.RegionHeld3
import Derived.OrdersIn
import Derived.TacticsIn
import Derived.RangeFuncKeeps
import Derived.RangeFuncLeaves
namespace Go.Proofs.Ytcdemjjgmnbkfaa
open Go
set_option linter.unusedSimpArgs false
set_option linter.unusedVariables false

/-! ### Frames: what is known of the temporaries -/
abbrev Env := List (Nat × Value)
def look (s : Nat) : Env → Option Value
  | [] => none
  | (k, v) :: r => bif Nat.beq s k then some v else look s r

/-- n: the number of slots, and the calls that are deferred. -/
structure Fit (n : Nat × List Deferred) (G : Env) (a : Act) : Prop where
  defers : a.defers = n.2
  size : a.tmps.size = n.1
  get : ∀ s v, look s G = some v → s < n.1 ∧ a.tmps.getD s undef = v

theorem Fit.put {n : Nat × List Deferred} {G : Env} {a : Act} {d : Nat} {v : Value} (h : Fit n G a) (hd : d < n.1) : Fit n ((d, v) :: G) (a.put (some d) v) := by
  refine ⟨h.defers, by simp [Act.put, h.size], fun s u hs => ?_⟩
  simp only [look] at hs
  by_cases e : s = d
  · subst e
    simp at hs
    subst hs
    refine ⟨hd, ?_⟩
    simp [Act.put, Array.getD, h.size, hd]
  · have : Nat.beq s d = false := by
      cases hb : Nat.beq s d
      · rfl
      · exact absurd (Nat.eq_of_beq_eq_true hb) e
    simp only [this, cond_false] at hs
    obtain ⟨h1, h2⟩ := h.get s u hs
    refine ⟨h1, ?_⟩
    rw [← h2]
    have e' : d ≠ s := fun x => e x.symm
    simp [Act.put, Array.getD, h.size, h1, e']

theorem Fit.putNone {n : Nat × List Deferred} {G : Env} {a : Act} {v : Value} (h : Fit n G a) : Fit n G (a.put none v) := h

def ev (G : Env) : Operand → Option Value
  | .tmp t => look t G
  | .const v => some v
  | .global g => some (.pointer (some ⟨g, 0, none⟩))
  | .func f => some (.func (.func f) #[] #[])

theorem Fit.ev {n : Nat × List Deferred} {G : Env} {a : Act} (h : Fit n G a) {x : Operand} {v : Value} (hx : ev G x = some v) : a.eval x = v := by
  cases x with
  | tmp t => exact (h.get t v hx).2
  | const u => simpa [Proofs.Ytcdemjjgmnbkfaa.ev, Act.eval] using hx
  | global g => simpa [Proofs.Ytcdemjjgmnbkfaa.ev, Act.eval] using hx
  | func f => simpa [Proofs.Ytcdemjjgmnbkfaa.ev, Act.eval] using hx

def evs (G : Env) : List Operand → Option (List Value)
  | [] => some []
  | x :: r => match ev G x, evs G r with
    | some v, some vs => some (v :: vs)
    | _, _ => none

theorem Fit.evs {n : Nat × List Deferred} {G : Env} {a : Act} (h : Fit n G a) : ∀ {xs : List Operand} {vs : List Value}, evs G xs = some vs → xs.map a.eval = vs
  | [], vs, hx => by simp [Proofs.Ytcdemjjgmnbkfaa.evs] at hx; simp [hx]
  | x :: r, vs, hx => by
    simp only [Proofs.Ytcdemjjgmnbkfaa.evs] at hx
    split at hx
    · rename_i v ws h1 h2
      simp at hx
      subst hx
      simp [h.ev h1, h.evs h2]
    · cases hx

/-- What is kept of a frame: the slots that are named, each with its value. -/
inductive Pick (G : Env) : Env → Prop
  | nil : Pick G []
  | cons {k : Nat} {v : Value} {G' : Env} (h : look k G = some v) (t : Pick G G') : Pick G ((k, v) :: G')

theorem Pick.look {G : Env} : ∀ {G' : Env}, Pick G G' → ∀ s v, look s G' = some v → Proofs.Ytcdemjjgmnbkfaa.look s G = some v
  | _, .nil, s, v, h => by simp [Proofs.Ytcdemjjgmnbkfaa.look] at h
  | _, .cons (k := k) hk t, s, v, h => by
    simp only [Proofs.Ytcdemjjgmnbkfaa.look] at h
    by_cases e : Nat.beq s k = true
    · have := Nat.eq_of_beq_eq_true e
      subst this
      simp at h
      subst h
      exact hk
    · simp only [Bool.not_eq_true] at e
      simp only [e, cond_false] at h
      exact t.look s v h

theorem Pick.fit {n : Nat × List Deferred} {G G' : Env} {a : Act} (hp : Pick G G') (h : Fit n G a) : Fit n G' a :=
  ⟨h.defers, h.size, fun s v hs => h.get s v (hp.look s v hs)⟩

theorem Pick.app {G : Env} : ∀ {A B : Env}, Pick G A → Pick G B → Pick G (A ++ B)
  | _, _, .nil, hb => hb
  | _, _, .cons h t, hb => .cons h (t.app hb)

/-! ### Heaplets and the state of a walk -/
abbrev Hp := Nat → Option Obj
def sing (b : Nat) (o : Obj) : Hp := fun b' => if b' = b then some o else none
@[simp] theorem sing_self (b : Nat) (o : Obj) : sing b o b = some o := by simp [sing]
theorem sing_some {b b' : Nat} {o o' : Obj} (h : sing b o b' = some o') : b' = b ∧ o' = o := by
  unfold sing at h
  split at h
  · rename_i e; simp at h; exact ⟨e, h.symm⟩
  · cases h

def Agree (H : Hp) (w : World) : Prop := ∀ b o, H b = some o → w.heap[b]? = some o
theorem Agree.lt {H : Hp} {w : World} (h : Agree H w) {b : Nat} {o : Obj} (hb : H b = some o) : b < w.heap.size := by
  have := h b o hb
  exact (Array.getElem?_eq_some_iff.1 this).1

def NoX : Nat → Prop := fun _ => False
/-- The streams are as they were. -/
def Io (u v : World) : Prop := v.os = u.os ∧ v.output = u.output
theorem Io.refl (w : World) : Io w w := ⟨rfl, rfl⟩
theorem Io.trans {u v w : World} (h : Io u v) (k : Io v w) : Io u w := ⟨k.1.trans h.1, k.2.trans h.2⟩
/-- Blocks below the old size are as they were, but for those of X. -/
structure Ext (X : Nat → Prop) (w w' : World) : Prop where
  size : w.heap.size ≤ w'.heap.size
  same : ∀ b, b < w.heap.size → ¬ X b → w'.heap[b]? = w.heap[b]?
  io : Io w w'
theorem Ext.refl (X : Nat → Prop) (w : World) : Ext X w w := ⟨Nat.le_refl _, fun _ _ _ => rfl, Io.refl _⟩
theorem Ext.trans {X : Nat → Prop} {u v w : World} (h : Ext X u v) (k : Ext X v w) : Ext X u w :=
  ⟨Nat.le_trans h.size k.size, fun b hb hx => (k.same b (Nat.lt_of_lt_of_le hb h.size) hx).trans (h.same b hb hx), h.io.trans k.io⟩
theorem Ext.agree {w w' : World} {H : Hp} (h : Ext NoX w w') (hA : Agree H w) : Agree H w' :=
  fun b o hb => (h.same b (hA.lt hb) (fun x => x)).trans (hA b o hb)
theorem Ext.mono {X Y : Nat → Prop} {u v : World} (h : Ext X u v) (hx : ∀ b, b < u.heap.size → X b → Y b) : Ext Y u v :=
  ⟨h.size, fun b hb hy => h.same b hb (fun x => hy (hx b hb x)), h.io⟩

class In {α : Type} (a : α) (l : List α) : Prop where mem : a ∈ l
instance {α : Type} (a : α) (l : List α) : In a (a :: l) := ⟨.head _⟩
instance {α : Type} (a b : α) (l : List α) [h : In a l] : In a (b :: l) := ⟨.tail _ h.mem⟩
class AllIn {α : Type} (l m : List α) : Prop where all : ∀ a ∈ l, a ∈ m
instance {α : Type} (m : List α) : AllIn [] m := ⟨fun _ h => by cases h⟩
instance {α : Type} (a : α) (l m : List α) [h : In a m] [t : AllIn l m] : AllIn (a :: l) m :=
  ⟨fun x hx => by cases hx with | head => exact h.mem | tail _ h' => exact t.all x h'⟩
instance (priority := low) {α : Type} (l : List α) : AllIn l l := ⟨fun _ h => h⟩
theorem allIn_refl {α : Type} (l : List α) : AllIn l l := ⟨fun _ h => h⟩

def Apart (H K : Hp) : Prop := ∀ b, H b = none ∨ K b = none

/-- Whom a call works for: x: the blocks of the caller's that it may write; j: what it carries for the caller, a word on the world that holds whatever the call does to what is its own (D). -/
structure Side where
  m : Nat
  x : Nat → Prop
  j : (Nat → Prop) → World → Prop
  ok : ∀ {D D' : Nat → Prop} {w w' : World}, j D w → w.heap.size ≤ w'.heap.size → (∀ b, b < w.heap.size → ¬ D b → w'.heap[b]? = w.heap[b]?) → Io w w' → (∀ b, D' b → (D b ∨ w.heap.size ≤ b) ∧ b < w'.heap.size) → j D' w'
def Side.of (x : Nat → Prop) : Side := ⟨0, x, fun _ _ => True, fun _ _ _ _ _ => trivial⟩
/-- The same, with a size that the heap has at least. -/
def Side.mark (X : Side) (m : Nat) : Side := { X with m := m }
def noS : Side := .of NoX
/-- What is the call's own: what it may write, and what it has made. -/
def dm (B : World) (ims L : List Hp) : Nat → Prop := fun b => (∃ H ∈ L, H b ≠ none) ∨ (B.heap.size ≤ b ∧ ∃ H ∈ ims, H b ≠ none)
/-- B: the world when the call began. X: the blocks of the caller's that the call may write. ims: heaplets that nobody writes. L: heaplets that the call owns, apart from each other and from ims. -/
structure St (B : World) (X : Side) (ims : List Hp) (L : List Hp) (w : World) : Prop where
  size : B.heap.size ≤ w.heap.size
  ext : ∀ b, b < B.heap.size → ¬ X.x b → w.heap[b]? = B.heap[b]?
  im : ∀ H ∈ ims, Agree H w
  own : ∀ H ∈ L, Agree H w ∧ (∀ b, H b ≠ none → B.heap.size ≤ b ∨ X.x b) ∧ ∀ I ∈ ims, Apart H I
  nd : L.Pairwise Apart
  io : Io B w
  j : X.j (dm B ims L) w
  mrk : X.m ≤ w.heap.size

section states
variable {B : World} {X : Side} {ims ims' L L' : List Hp} {H : Hp} {w w' : World}
/-- What is the call's own is there. -/
theorem dm_lt (im : ∀ H ∈ ims, Agree H w) (own : ∀ H ∈ L, Agree H w) {b : Nat} (hb : dm B ims L b) : b < w.heap.size := by
  rcases hb with ⟨H, hH, hb⟩ | ⟨_, H, hH, hb⟩
  · cases hh : H b with
    | none => exact absurd hh hb
    | some o => exact (own H hH).lt hh
  · cases hh : H b with
    | none => exact absurd hh hb
    | some o => exact (im H hH).lt hh
theorem St.turn (h : St B X ims L w) (hs : w.heap.size ≤ w'.heap.size) (he : ∀ b, b < w.heap.size → ¬ dm B ims L b → w'.heap[b]? = w.heap[b]?) (hio : Io w w') (hd : ∀ b, dm B ims' L' b → dm B ims L b ∨ w.heap.size ≤ b)
    (ext : ∀ b, b < B.heap.size → ¬ X.x b → w'.heap[b]? = B.heap[b]?) (im : ∀ H ∈ ims', Agree H w')
    (own : ∀ H ∈ L', Agree H w' ∧ (∀ b, H b ≠ none → B.heap.size ≤ b ∨ X.x b) ∧ ∀ I ∈ ims', Apart H I) (nd : L'.Pairwise Apart) : St B X ims' L' w' :=
  ⟨Nat.le_trans h.size hs, ext, im, own, nd, h.io.trans hio, X.ok h.j hs he hio (fun b hb => ⟨hd b hb, dm_lt im (fun H hH => (own H hH).1) hb⟩), Nat.le_trans h.mrk hs⟩
theorem St.still (h : St B X ims L w) (hd : ∀ b, dm B ims' L' b → dm B ims L b) (im : ∀ H ∈ ims', Agree H w)
    (own : ∀ H ∈ L', Agree H w ∧ (∀ b, H b ≠ none → B.heap.size ≤ b ∨ X.x b) ∧ ∀ I ∈ ims', Apart H I) (nd : L'.Pairwise Apart) : St B X ims' L' w :=
  h.turn (Nat.le_refl _) (fun _ _ _ => rfl) (Io.refl _) (fun b hb => .inl (hd b hb)) h.ext im own nd
theorem St.init (h : ∀ H ∈ ims, Agree H w) : St w noS ims [] w :=
  ⟨Nat.le_refl _, fun _ _ _ => rfl, h, fun _ h => (by cases h), List.Pairwise.nil, Io.refl _, trivial, Nat.zero_le _⟩
theorem St.toExt (h : St B X ims L w) : Ext X.x B w := ⟨h.size, h.ext, h.io⟩
theorem St.ag (h : St B X ims L w) [i : In H ims] : Agree H w := h.im H i.mem
theorem St.agL (h : St B X ims L w) [i : In H L] : Agree H w := (h.own H i.mem).1

/-- A callee that writes nothing of what is there. -/
theorem St.call (h : St B X ims L w) (e : Ext NoX w w') : St B X ims L w' :=
  h.turn e.size (fun b hb _ => e.same b hb (fun x => x)) e.io (fun _ hb => .inl hb) (fun b hb hx => (e.same b (Nat.lt_of_lt_of_le hb h.size) (fun x => x)).trans (h.ext b hb hx))
   (fun H hH => e.agree (h.im H hH)) (fun H hH => ⟨e.agree (h.own H hH).1, (h.own H hH).2⟩) h.nd
/-- A fresh heaplet, owned. -/
theorem St.push (h : St B X ims L w) (e : Ext NoX w w') {H : Hp}
    (hA : Agree H w') (hf : ∀ b, H b ≠ none → w.heap.size ≤ b) : St B X ims (H :: L) w' := by
  have h' := h.call e
  have key : ∀ K : Hp, Agree K w → Apart H K := fun K hK b => by
    by_cases hb : H b = none
    · exact .inl hb
    · right
      cases hk : K b with
      | none => rfl
      | some o => exact absurd (hf b hb) (Nat.not_le.2 (hK.lt hk))
  refine h.turn e.size (fun b hb _ => e.same b hb (fun x => x)) e.io (fun b hb => ?_) h'.ext h'.im (fun K hK => ?_) ?_
  · rcases hb with ⟨K, hK, hb⟩ | hb
    · cases hK with
      | head => exact .inr (hf b hb)
      | tail _ hK => exact .inl (.inl ⟨K, hK, hb⟩)
    · exact .inl (.inr hb)
  · cases hK with
    | head => exact ⟨hA, fun b hb => .inl (Nat.le_trans h.size (hf b hb)), fun I hI => key I (h.im I hI)⟩
    | tail _ hK => exact h'.own K hK
  · exact .cons (fun K hK => key K (h.own K hK).1) h.nd
/-- The first owned heaplet is written no more. -/
theorem St.freeze (h : St B X ims (H :: L) w) : St B X (H :: ims) L w :=
  h.still (fun b hb => by
      rcases hb with ⟨K, hK, hb⟩ | ⟨hB, K, hK, hb⟩
      · exact .inl ⟨K, .tail _ hK, hb⟩
      · cases hK with
        | head => exact .inl ⟨H, .head _, hb⟩
        | tail _ hK => exact .inr ⟨hB, K, hK, hb⟩)
    (fun K hK => by
      cases hK with
      | head => exact (h.own H (.head _)).1
      | tail _ hK => exact h.im K hK)
    (fun K hK => ⟨(h.own K (.tail _ hK)).1, (h.own K (.tail _ hK)).2.1, fun I hI => by
      cases hI with
      | head => exact fun b => ((List.pairwise_cons.1 h.nd).1 K hK b).symm
      | tail _ hI => exact (h.own K (.tail _ hK)).2.2 I hI⟩)
    (List.pairwise_cons.1 h.nd).2
theorem St.pushIm (h : St B X ims L w) (e : Ext NoX w w') {H : Hp}
    (hA : Agree H w') (hf : ∀ b, H b ≠ none → w.heap.size ≤ b) : St B X (H :: ims) L w' := (h.push e hA hf).freeze
theorem St.weak (h : St B X ims L w) [i : AllIn ims' ims] (s : L'.Sublist L) : St B X ims' L' w :=
  h.still (fun b hb => by
      rcases hb with ⟨K, hK, hb⟩ | ⟨hB, K, hK, hb⟩
      · exact .inl ⟨K, s.mem hK, hb⟩
      · exact .inr ⟨hB, K, i.all K hK, hb⟩)
    (fun H hH => h.im H (i.all H hH)) (fun H hH => ⟨(h.own H (s.mem hH)).1, (h.own H (s.mem hH)).2.1, fun I hI => (h.own H (s.mem hH)).2.2 I (i.all I hI)⟩) (h.nd.sublist s)
theorem St.dropL (h : St B X ims (H :: L) w) : St B X ims L w := h.weak (i := allIn_refl _) (.cons _ (List.Sublist.refl _))
theorem St.addIm (h : St B X ims L w) {H : Hp} (hA : Agree H w) (hd : ∀ K ∈ L, Apart K H) (hdm : ∀ b, H b ≠ none → ∃ K ∈ ims, K b ≠ none) : St B X (H :: ims) L w :=
  h.still (fun b hb => by
      rcases hb with hb | ⟨hB, K, hK, hb⟩
      · exact .inl hb
      · cases hK with
        | head => exact .inr ⟨hB, hdm b hb⟩
        | tail _ hK => exact .inr ⟨hB, K, hK, hb⟩)
    (fun K hK => by
      cases hK with
      | head => exact hA
      | tail _ hK => exact h.im K hK)
    (fun K hK => ⟨(h.own K hK).1, (h.own K hK).2.1, fun I hI => by
      cases hI with
      | head => exact hd K hK
      | tail _ hI => exact (h.own K hK).2.2 I hI⟩) h.nd
end states
theorem St.ims {B : World} {X : Side} {l l' L : List Hp} {w : World} (h : St B X l L w) [i : AllIn l' l] : St B X l' L w := h.weak (List.Sublist.refl _)
def orHp (H K : Hp) : Hp := fun b => (H b).or (K b)
theorem agree_or {H K : Hp} {w : World} (h : Agree H w) (k : Agree K w) : Agree (orHp H K) w := fun b o hb => by
  unfold orHp at hb
  cases hh : H b with
  | some x => rw [hh] at hb; simp at hb; subst hb; exact h b x hh
  | none => rw [hh] at hb; simp at hb; exact k b o hb

/-! ### The sequence of a region's operations -/
/-- dr: does the region draw its order; fl: which operations must leave the world alone (a missing entry: need not). S: what is known of the world. -/
def wpSeq (dr : Bool) (P : Program) (ops : Array Oper) (Q : Exit → Act → World → Prop) : (World → Prop) → List Bool → List Oper → Act → World → Prop
  | _, _, [], a, w => Q .normal a w
  | S, fl, o :: rest, a, w =>
    if Region.wanted o (yielded ops a.tmps) = true then
      (∃ v, (∀ w', S w' → (execOp a.eval o).run P w' = .ok (.value v) w') ∧ wpSeq dr P ops Q S fl.tail rest (a.put o.dst v) w) ∨
      ((dr = true → fl.headD false = false) ∧ o.wp P a w (fun a' w' => ∃ S2 : World → Prop, (rest = [] ∨ S2 w' ∧ (dr = true → ∀ u, S2 u → S u)) ∧ wpSeq dr P ops Q S2 fl.tail rest a' w') (fun _ _ _ => False))
    else wpSeq dr P ops Q S fl.tail rest (a.put o.dst undef) w

theorem wpSeq_false {P : Program} {ops : Array Oper} {Q : Exit → Act → World → Prop} {S S' : World → Prop} (hs : ∀ u, S' u → S u) : ∀ (fl : List Bool) (l : List Oper) (a : Act) (w : World),
    wpSeq false P ops Q S fl l a w → wpSeq false P ops Q S' fl l a w
  | _, [], _, _, h => h
  | fl, o :: rest, a, w, h => by
    unfold wpSeq at h ⊢
    split at h
    · rename_i hw
      rw [if_pos hw]
      rcases h with ⟨v, hv, h⟩ | ⟨h1, h2⟩
      · exact .inl ⟨v, fun w' hw' => hv w' (hs w' hw'), wpSeq_false hs fl.tail rest _ w h⟩
      · refine .inr ⟨h1, ?_⟩
        unfold Oper.wp at h2 ⊢
        generalize (execOp a.eval o).run P w = r at h2
        have key : ∀ a' w', (∃ S2 : World → Prop, (rest = [] ∨ S2 w' ∧ (false = true → ∀ u, S2 u → S u)) ∧ wpSeq false P ops Q S2 fl.tail rest a' w') →
            (∃ S2 : World → Prop, (rest = [] ∨ S2 w' ∧ (false = true → ∀ u, S2 u → S' u)) ∧ wpSeq false P ops Q S2 fl.tail rest a' w') :=
          fun a' w' ⟨S2, h3, h4⟩ => ⟨S2, h3.imp id (fun h => ⟨h.1, fun e => by cases e⟩), h4⟩
        cases r with
        | ok n w' =>
          cases n <;> simp only [Oper.upon] at h2 ⊢ <;> first
            | exact key _ _ h2
            | exact h2.mono (fun e w'' he => by cases e <;> first | exact key _ _ he | exact he)
            | exact h2.mono (fun v w'' he => key _ _ he)
        | halt x w' => cases x <;> simp only [Oper.upon] at h2 ⊢
    · rename_i hw
      rw [if_neg hw]
      exact wpSeq_false hs fl.tail rest _ w h

theorem oper_wp_noPanic {P : Program} {o : Oper} {a : Act} {w : World} {K K' : Act → World → Prop} {Q : Exit → Act → World → Prop} (hk : ∀ a w, K a w → K' a w)
    (h : o.wp P a w K (fun _ _ _ => False)) : o.wp P a w K' Q := by
  unfold Oper.wp at h ⊢
  generalize (execOp a.eval o).run P w = r at h
  cases r with
  | ok n w' =>
    cases n <;> simp only [Oper.upon] at h ⊢ <;> first
      | exact hk _ _ h
      | exact h.mono (fun e w'' he => by cases e <;> first | exact hk _ _ he | exact he.elim | exact (by obtain ⟨a, b, c⟩ := he; exact c.elim))
      | exact h.mono (fun v w'' he => hk _ _ he)
  | halt x w' => cases x <;> simp only [Oper.upon] at h ⊢

/-! ### A region that draws its order: the order of the text serves every order -/
/-- As the kit's law for held loads, but the operations of fx, which wait for all that are taken first, need not keep S. -/
def anyG (P : Program) (md : Region.Mode) (ops : Array Oper) (Q : Exit → Act → World → Prop) (S : World → Prop) (fx : Nat → Bool) : Nat → Array Bool → Act → World → Prop
  | 0, listed, a, w => Region.ready md ops listed = [] ∧ Q .normal a w
  | fuel + 1, listed, a, w =>
    (Region.ready md ops listed = [] → Q .normal a w) ∧
    ∀ i ∈ Region.ready md ops listed, wpOp P ops Q i (fun a' w' => (fx i = true ∨ S w') ∧ anyG P md ops Q S fx fuel (listed.setIfInBounds i true) a' w') a w

theorem wpAny_of_anyG {P : Program} {md : Region.Mode} {ops : Array Oper} {Q : Exit → Act → World → Prop} {S : World → Prop} {fx : Nat → Bool} :
    ∀ (fuel : Nat) (listed : Array Bool) (a : Act) (w : World), anyG P md ops Q S fx fuel listed a w → wpAny P md ops Q fuel listed a w
  | 0, _, _, _, h => h
  | fuel + 1, _, _, _, h => ⟨h.1, fun i hi => wpOp_mono (fun a' w' h' => wpAny_of_anyG fuel _ a' w' h'.2) (h.2 i hi)⟩

/-- What is listed waits for nothing that is not. -/
def Dc (md : Region.Mode) (ops : Array Oper) (listed : Array Bool) : Prop :=
  ∀ k o, listed.getD k false = true → ops[k]? = some o → ∀ e ∈ o.after, Region.binds md e = true → listed.getD e.on false = true
theorem getD_set_true {listed : Array Bool} {i k : Nat} (h : (listed.setIfInBounds i true).getD k false = true) : k = i ∨ listed.getD k false = true := by
  by_cases e : k = i
  · exact .inl e
  · right
    rwa [getD_set_false_ne e] at h
where
  getD_set_false_ne {listed : Array Bool} {i k : Nat} (e : k ≠ i) : (listed.setIfInBounds i true).getD k false = listed.getD k false := by
    have e' : i ≠ k := fun h => e h.symm
    simp only [Array.getD, Array.size_setIfInBounds]
    by_cases hk : k < listed.size
    · simp [hk, e']
    · simp [hk]
theorem getD_set_keep {listed : Array Bool} {i k : Nat} (h : listed.getD k false = true) : (listed.setIfInBounds i true).getD k false = true := by
  have hk : k < listed.size := by
    rcases Nat.lt_or_ge k listed.size with h' | h'
    · exact h'
    · simp [Array.getD, Nat.not_lt.2 h'] at h
  by_cases e : k = i
  · subst e; simp [Array.getD, hk]
  · have e' : i ≠ k := fun h => e h.symm
    simp [Array.getD, hk, e'] at h ⊢; exact h
theorem Dc.none (md : Region.Mode) (ops : Array Oper) (n : Nat) : Dc md ops (Array.replicate n false) := fun k o h => by
  simp [Array.getD] at h
/-- What an operation waits for, at however many removes. -/
def waitsB (md : Region.Mode) (ops : Array Oper) : Nat → Nat → Nat → Bool
  | 0, _, _ => false
  | fuel + 1, j, i => match ops[j]? with
    | none => false
    | some o => o.after.any fun e => Region.binds md e && (e.on == i || waitsB md ops fuel e.on i)
theorem waits_listed {md : Region.Mode} {ops : Array Oper} {listed : Array Bool} (hd : Dc md ops listed) {i : Nat} : ∀ (fuel j : Nat) (o : Oper), ops[j]? = some o → (∀ e ∈ o.after, Region.binds md e = true → listed.getD e.on false = true) →
    waitsB md ops fuel j i = true → listed.getD i false = true
  | 0, _, _, _, _, h => by cases h
  | fuel + 1, j, o, ho, hall, h => by
    unfold waitsB at h
    rw [ho] at h
    simp only [Array.any_eq_true, Bool.and_eq_true, Bool.or_eq_true, beq_iff_eq] at h
    obtain ⟨k, hk, hb, h | h⟩ := h
    · rw [← h]; exact hall _ (Array.getElem_mem hk) hb
    · have h1 := hall _ (Array.getElem_mem hk) hb
      cases ho2 : ops[(o.after[k]).on]? with
      | none =>
        cases fuel with
        | zero => cases h
        | succ fuel => unfold waitsB at h; rw [ho2] at h; cases h
      | some o2 => exact waits_listed hd fuel _ o2 ho2 (fun e he hb2 => hd _ o2 h1 ho2 e he hb2) h
theorem ready_all {md : Region.Mode} {ops : Array Oper} {listed : Array Bool} {j : Nat} (hj : j ∈ Region.ready md ops listed) : ∃ o, ops[j]? = some o ∧ (∀ e ∈ o.after, Region.binds md e = true → listed.getD e.on false = true) := by
  obtain ⟨_, oj, hoj, hall⟩ := mem_ready.1 hj
  exact ⟨oj, hoj, hall⟩
theorem Dc.set {md : Region.Mode} {ops : Array Oper} {listed : Array Bool} (hd : Dc md ops listed) {j : Nat} (hj : j ∈ Region.ready md ops listed) : Dc md ops (listed.setIfInBounds j true) := fun k o hk ho e he hb => by
  obtain ⟨oj, hoj, hall⟩ := ready_all hj
  rcases getD_set_true hk with rfl | hk
  · rw [hoj] at ho; cases ho; exact getD_set_keep (hall e he hb)
  · exact getD_set_keep (hd k o hk ho e he hb)

theorem anyG_first {P : Program} {md : Region.Mode} {ops : Array Oper} {Q : Exit → Act → World → Prop} {S : World → Prop} {fx : Nat → Bool} {i : Nat} {oi : Oper} {v : Value}
    (hi : ops[i]? = some oi) (hsel : ∀ (j : Nat) (o : Oper) cs b, ops[j]? = some o → o.op ≠ .select cs b)
    (hQ : ∀ c a w, Q (.panic c) (a.put oi.dst v) w → Q (.panic c) a w)
    :
    ∀ (fuel : Nat) (listed : Array Bool) (a : Act) (w : World), (∀ j, j < ops.size → fx j = true → listed.getD j false = true ∨ waitsB md ops ops.size j i = true) → Dc md ops listed →
      (∀ j oj, ops[j]? = some oj → j ≠ i → listed.getD j true = false → (∀ e ∈ oj.after, Region.binds md e = true → e.on ≠ i) → oi.apart ops oj = true) →
      i ∈ Region.ready md ops listed → YieldsIf P ops S oi v a → S w →
      anyG P md ops Q S fx fuel (listed.setIfInBounds i true) (a.put oi.dst v) w → anyG P md ops Q S fx (fuel + 1) listed a w := by
  intro fuel
  induction fuel with
  | zero =>
    intro listed a w _ _ _ hr hy hS H
    refine ⟨fun h => (by rw [h] at hr; cases hr), fun j hj => ?_⟩
    by_cases hji : j = i
    · subst hji; exact hy.wpOp hi hS ⟨.inr hS, H⟩
    · have := ready_mono hj hji
      rw [H.1] at this
      cases this
  | succ fuel ih =>
    intro listed a w hf hdc hfree hr hy hS H
    refine ⟨fun h => (by rw [h] at hr; cases hr), fun j hj => ?_⟩
    by_cases hji : j = i
    · subst hji; exact hy.wpOp hi hS ⟨.inr hS, H⟩
    · have h1 := H.2 j (ready_mono hj hji)
      obtain ⟨hjun, oj, hoj, hall⟩ := mem_ready.1 hj
      have hiun : listed.getD i false = false := by
        have h0 := (mem_ready.1 hr).1
        rcases Nat.lt_or_ge i listed.size with h' | h'
        · simpa [Array.getD, h'] using h0
        · simp [Array.getD, Nat.not_lt.2 h']
      have hnot : ∀ e ∈ oj.after, Region.binds md e = true → e.on ≠ i := fun e he hb heq => by
        have h1 := hall e he hb
        have h0 := (mem_ready.1 hr).1
        rw [heq] at h1
        rcases Nat.lt_or_ge i listed.size with h' | h'
        · simp [h'] at h0 h1; rw [h0] at h1; cases h1
        · simp [Array.getElem?_eq_none h'] at h1
      have hjf : fx j = false := by
        cases hfx : fx j with
        | false => rfl
        | true =>
          rcases hf j (Array.getElem?_eq_some_iff.1 hoj).1 hfx with h4 | h4
          · have h5 : listed.getD j false = false := by
              have h0 := hjun
              rcases Nat.lt_or_ge j listed.size with h' | h'
              · simpa [Array.getD, h'] using h0
              · simp [Array.getD, Nat.not_lt.2 h']
            rw [h5] at h4; cases h4
          · have := waits_listed hdc ops.size j oj hoj hall h4
            rw [hiun] at this; cases this
      have h2 := wpOp_putIf hoj (hfree j oj hoj hji hjun hnot) (fun cs b => hsel i oi cs b hi) (fun cs b => hsel j oj cs b hoj) hQ hy h1
      have hfree' : ∀ k ok, ops[k]? = some ok → k ≠ i → (listed.setIfInBounds j true).getD k true = false →
          (∀ e ∈ ok.after, Region.binds md e = true → e.on ≠ i) → oi.apart ops ok = true := fun k ok hk hki hun hno => by
        refine hfree k ok hk hki ?_ hno
        by_cases hjk : j = k
        · subst hjk; exact hjun
        · rw [getD_set_ne true hjk] at hun; exact hun
      refine wpOp_mono (fun a' w' h3 => ?_) h2
      have hS' : S w' := h3.2.1.resolve_left (by rw [hjf]; simp)
      refine ⟨.inr hS', ih (listed.setIfInBounds j true) a' w' (fun k hk hfk => (hf k hk hfk).imp getD_set_keep id) (hdc.set hj) hfree' (ready_mono hr (Ne.symm hji)) h3.1 hS' ?_⟩
      rw [Array.setIfInBounds_comm _ _ hji]
      exact h3.2.2

theorem anyG_mono {P : Program} {md : Region.Mode} {ops : Array Oper} {Q : Exit → Act → World → Prop} {S S' : World → Prop} {fx : Nat → Bool} (hs : ∀ w, S w → S' w) :
    ∀ (fuel : Nat) (listed : Array Bool) (a : Act) (w : World), anyG P md ops Q S fx fuel listed a w → anyG P md ops Q S' fx fuel listed a w
  | 0, _, _, _, h => h
  | fuel + 1, _, _, _, h => ⟨h.1, fun i hi => wpOp_mono (fun a' w' h' => ⟨h'.1.imp id (hs w'), anyG_mono hs fuel _ a' w' h'.2⟩) (h.2 i hi)⟩

/-- The check of the order of the text, by the kernel: a true in fl: the operation may be taken first; else it is the only one that may come up. f: the operation that need not keep S. -/
def seqOk (ops : Array Oper) (f : Nat) : List Bool → Nat → Nat → Array Bool → Bool
  | _, 0, _, listed => (Region.ready .any ops listed).isEmpty
  | fl, fuel + 1, k, listed =>
    (bif fl.headD false then
      (Region.ready .any ops listed).contains k && Region.free .any ops listed k && !(f == k) &&
        (match ops[f]? with | none => true | some o => o.after.any fun e => Region.binds .any e && e.on == k)
     else Region.ready .any ops listed == [k] && (!(fuel == 0) || f == k)) && seqOk ops f fl.tail fuel (k + 1) (listed.setIfInBounds k true)

theorem anyG_of_seq {P : Program} {ops : Array Oper} {Q : Exit → Act → World → Prop} {f : Nat}
    (hsel : Region.noSelect ops = true) (hQ : ∀ c a w, ¬ Q (.panic c) a w) :
    ∀ (l : List Oper) (S : World → Prop) (fl : List Bool) (k : Nat) (listed : Array Bool) (a : Act) (w : World), Dc .any ops listed → (∀ j, l[j]? = ops[k + j]?) →
      seqOk ops f fl l.length k listed = true → (l = [] ∨ S w) → wpSeq true P ops Q S fl l a w → anyG P .any ops Q S (fun i => i == f) l.length listed a w
  | [], _, _, _, _, a, w, _, _, hB, _, h => by
    refine ⟨?_, h⟩
    simpa [seqOk] using hB
  | o :: l, S, fl, k, listed, a, w, hdc, hl, hB, hk, h => by
    have hS : S w := hk.resolve_left (by simp)
    have h0 : ops[k]? = some o := by simpa using (hl 0).symm
    have hl' : ∀ j, l[j]? = ops[k + 1 + j]? := fun j => by have := hl (j + 1); simpa [Nat.add_assoc, Nat.add_comm 1 j] using this
    simp only [List.length_cons, seqOk, Bool.and_eq_true] at hB
    obtain ⟨hB1, hB2⟩ := hB
    unfold wpSeq at h
    by_cases hfl : fl.headD false = true
    · rw [hfl] at hB1
      simp only [cond_true, Bool.and_eq_true, Bool.not_eq_true', beq_eq_false_iff_ne] at hB1
      obtain ⟨⟨⟨hr, hfree⟩, hfk⟩, hwait⟩ := hB1
      have hwait' : ∀ j, j < ops.size → (j == f) = true → waitsB .any ops ops.size j k = true := fun j hj hjf => by
        have := beq_iff_eq.1 hjf
        subst this
        rw [Array.getElem?_eq_getElem hj] at hwait
        simp only [Array.any_eq_true, Bool.and_eq_true, beq_iff_eq] at hwait
        obtain ⟨i, hi, h1, h2⟩ := hwait
        obtain ⟨m, hm⟩ : ∃ m, ops.size = m + 1 := ⟨ops.size - 1, by omega⟩
        rw [hm]
        unfold waitsB
        rw [Array.getElem?_eq_getElem hj]
        simp only [Array.any_eq_true, Bool.and_eq_true, Bool.or_eq_true, beq_iff_eq]
        exact ⟨i, hi, h1, .inl h2⟩
      have hdc' : Dc .any ops (listed.setIfInBounds k true) := hdc.set (by simpa using hr)
      have main : ∀ v, YieldsIf P ops S o v a → wpSeq true P ops Q S fl.tail l (a.put o.dst v) w → anyG P .any ops Q S (fun i => i == f) (o :: l).length listed a w := fun v hy h =>
        anyG_first h0 (Region.noSelect_spec hsel) (fun c a w hq => (hQ c _ w hq).elim) l.length listed a w (fun j hj hjf => .inr (hwait' j hj hjf)) hdc (Region.free_spec h0 hfree) (by simpa using hr) hy hS
          (anyG_of_seq hsel hQ l S fl.tail (k + 1) _ _ w hdc' hl' hB2 (.inr hS) h)
      split at h
      · rename_i hw
        rcases h with ⟨v, hv, h⟩ | ⟨hno, _⟩
        · exact main v (.inl ⟨hw, hv⟩) h
        · rw [hno rfl] at hfl; cases hfl
      · rename_i hw
        exact main undef (.inr ⟨by simpa using hw, rfl⟩) h
    · simp only [Bool.not_eq_true] at hfl
      rw [hfl] at hB1
      simp only [cond_false, Bool.and_eq_true, beq_iff_eq, Bool.or_eq_true, Bool.not_eq_true', beq_eq_false_iff_ne] at hB1
      obtain ⟨hr, hlast⟩ := hB1
      have hdc' : Dc .any ops (listed.setIfInBounds k true) := hdc.set (by rw [hr]; simp)
      refine ⟨fun h' => absurd (hr ▸ h') (by simp), fun i hi => ?_⟩
      rw [hr] at hi
      simp only [List.mem_singleton] at hi
      subst hi
      have hlast' : ∀ S2 : World → Prop, ∀ w', (l = [] ∨ S2 w') → ((i == f) = true ∨ S2 w') := fun S2 w' h2 => by
        rcases h2 with h2 | h2
        · left
          rcases hlast with h3 | h3
          · subst h2; simp at h3
          · simpa using h3.symm
        · exact .inr h2
      unfold wpOp
      rw [h0]
      simp only
      split at h
      · rename_i hw
        rw [if_pos hw]
        left
        rcases h with ⟨v, hv, h⟩ | ⟨_, h⟩
        · unfold Oper.wp
          rw [hv w hS]
          exact ⟨.inr hS, anyG_of_seq hsel hQ l S fl.tail (i + 1) _ _ w hdc' hl' hB2 (.inr hS) h⟩
        · refine oper_wp_noPanic (fun a' w' h' => ?_) h
          obtain ⟨S2, h2, h3⟩ := h'
          have h4 := anyG_of_seq hsel hQ l S2 fl.tail (i + 1) _ _ w' hdc' hl' hB2 (h2.imp id (·.1)) h3
          rcases h2 with h2 | ⟨h2, h5⟩
          · refine ⟨hlast' S w' (.inl h2), ?_⟩
            subst h2
            exact h4
          · exact ⟨.inr (h5 rfl w' h2), anyG_mono (h5 rfl) _ _ _ _ h4⟩
      · rename_i hw
        rw [if_neg hw]
        exact ⟨.inr hS, anyG_of_seq hsel hQ l S fl.tail (i + 1) _ _ w hdc' hl' hB2 (.inr hS) h⟩

/-! ### The same in a round of a loop over a function -/
def FW (R : Option Nat) : Fence := ⟨fun _ => True, none, false, R⟩
theorem room_FW (R : Option Nat) (n : Nat) : (FW R).room n := fun _ h => by cases h
theorem calls_FW {P : Program} {f : FuncId} {args : Array Value} {w : World} {E : Ending → World → Prop} {R : Option Nat} {n : Nat} (h : Calls P f args w E) : CallsIn (FW R) n P f args w E :=
  show CallsIn Fence.wide n P f args w E from callsIn_wide.2 h
theorem calls_of_FW {P : Program} {f : FuncId} {args : Array Value} {w : World} {E : Ending → World → Prop} {R : Option Nat} {n : Nat} (h : CallsIn (FW R) n P f args w E) : Calls P f args w E :=
  callsIn_wide.1 (show CallsIn Fence.wide n P f args w E from h)
theorem rows_FW {P : Program} {row : String} {args : Array Value} {w : World} {E : Value → World → Prop} {R : Option Nat} {n : Nat} (h : Rows P row args w E) : RowsIn (FW R) n P row args w E :=
  fun c cs _ => let ⟨v, w', r, s⟩ := h c cs; ⟨v, w', r, (stepsIn_wide (P := P)).2 s⟩
theorem wpIn_n {P : Program} {c : Code} {Q : Exit → Act → World → Prop} {a : Act} {w : World} {R : Option Nat} {n m : Nat} (h : c.wpIn (FW R) n P Q a w) : c.wpIn (FW R) m P Q a w :=
  fun b k cs h1 h2 _ => h b k cs h1 h2 (room_FW R _)
def noDef (l : List Oper) : Bool := l.all fun o => match o.op with | .defer _ => false | _ => true
theorem opIn_of {P : Program} {o : Oper} {a : Act} {w : World} {K : Act → World → Prop} {Q : Exit → Act → World → Prop} {R : Option Nat} {n : Nat} (hd : ∀ c, o.op ≠ .defer c) (h : o.wp P a w K Q) : o.wpIn (FW R) n P a w K Q := by
  refine ⟨fun _ _ => trivial, ?_⟩
  rw [Oper.semAt_eq _ _ _ hd]
  unfold Oper.wp at h
  generalize (execOp a.eval o).run P w = r at h
  cases r with
  | ok x w' =>
    cases x <;> simp only [Oper.upon, Oper.uponIn] at h ⊢ <;> first
      | exact h
      | exact ⟨fun e => (by cases e), calls_FW h⟩
      | exact ⟨fun e => (by cases e), rows_FW h⟩
  | halt x w' => cases x <;> simp only [Oper.upon, Oper.uponIn] at h ⊢ <;> exact h
theorem noDef_get {l : List Oper} (h : noDef l = true) {o : Oper} (ho : o ∈ l) : ∀ c, o.op ≠ .defer c := fun c e => by
  have := List.all_eq_true.1 h o ho
  rw [e] at this; cases this
theorem listIn_of_seq {P : Program} {ops : Array Oper} {Q : Exit → Act → World → Prop} {R : Option Nat} {n : Nat} : ∀ (l : List Oper) (S : World → Prop) (fl : List Bool) (a : Act) (w : World), noDef l = true →
    (l = [] ∨ S w) → wpSeq false P ops Q S fl l a w → wpListIn (FW R) n P ops Q l a w
  | [], _, _, _, _, _, _, h => h
  | o :: rest, S, fl, a, w, hd, hS, h => by
    have hS : S w := hS.resolve_left (by simp)
    have hr : noDef rest = true := by simp only [noDef, List.all_cons, Bool.and_eq_true] at hd; exact hd.2
    unfold wpSeq at h
    unfold wpListIn
    split at h
    · rename_i hw
      rw [if_pos hw]
      refine opIn_of (noDef_get hd (.head _)) ?_
      rcases h with ⟨v, hv, h⟩ | ⟨_, h⟩
      · unfold Oper.wp
        rw [hv w hS]
        exact listIn_of_seq rest S fl.tail _ w hr (.inr hS) h
      · refine oper_wp_noPanic (fun a' w' h' => ?_) h
        obtain ⟨S2, h2, h3⟩ := h'
        exact listIn_of_seq rest S2 fl.tail a' w' hr (h2.imp id (·.1)) h3
    · rename_i hw
      rw [if_neg hw]
      exact ⟨fun _ _ => trivial, listIn_of_seq rest S fl.tail _ w hr (.inr hS) h⟩
/-- The ways out that are no panic. -/
def Only (Q : Exit → Act → World → Prop) : Exit → Act → World → Prop
  | .panic _, _, _ => False
  | .outgrown, _, _ => False
  | e, a, w => Q e a w
theorem only_out {Q : Exit → Act → World → Prop} : ∀ e a w, Only Q e a w → Q e a w := fun e a w h => by
  cases e <;> first | exact h | exact h.elim
theorem only_let {Q : Exit → Act → World → Prop} : ¬ LetsOut (Only Q) := fun ⟨_, _, h⟩ => h
theorem anyIn_of {P : Program} {ops : Array Oper} {Q : Exit → Act → World → Prop} {md : Region.Mode} {R : Option Nat} {n : Nat} (hd : noDef ops.toList = true) (hQ : ¬ LetsOut Q) : ∀ (fuel : Nat) (listed : Array Bool) (a : Act) (w : World), wpAny P md ops Q fuel listed a w → wpAnyIn (FW R) n P md ops Q fuel listed a w
  | 0, _, _, _, h => h
  | fuel + 1, listed, a, w, h => ⟨h.1, fun i hi => by
    have h1 := h.2 i hi
    unfold wpOp at h1
    unfold wpOpIn
    cases ho : ops[i]? with
    | none => rw [ho] at h1; exact anyIn_of hd hQ fuel _ a w h1
    | some o =>
      rw [ho] at h1
      simp only at h1 ⊢
      split at h1
      · rename_i hw
        rw [if_pos hw]
        rcases h1 with h1 | h1
        · exact Oper.wpIn_mono (fun a' w' h' => anyIn_of hd hQ fuel _ a' w' h') (opIn_of (noDef_get hd (by rw [← Array.mem_toList_iff.symm]; exact Array.mem_of_getElem? ho)) h1)
        · exact (hQ h1.2).elim
      · rename_i hw
        rw [if_neg hw]
        exact ⟨fun _ _ => trivial, anyIn_of hd hQ fuel _ _ w h1⟩⟩
theorem wpIn_region_seqL {P : Program} {l : List Oper} {id : Nat} {Q : Exit → Act → World → Prop} {R : Option Nat} {n : Nat} {a : Act} {w : World} {S : World → Prop} (hd : noDef l = true) (hS : S w) (h : wpSeq false P l.toArray Q S [] l a w) : (Code.region id l.toArray false).wpIn (FW R) n P Q a w :=
  wpIn_region_lit (listIn_of_seq l S [] a w hd (.inr hS) h)
theorem wpIn_region_anyL {P : Program} {l : List Oper} {id : Nat} {Q : Exit → Act → World → Prop} {R : Option Nat} {n : Nat} {a : Act} {w : World} (hm : P.follows .mixedOrders = true) (hd : noDef l = true)
    (h : wpAny P .any l.toArray (Only Q) l.toArray.size (Array.replicate l.toArray.size false) a { w with drawn := w.drawn + 1 }) : (Code.region id l.toArray true).wpIn (FW R) n P Q a w :=
  wpIn_mono (wpIn_region_any hm (anyIn_of (by simpa using hd) only_let _ _ _ _ h)) only_out
theorem wpIn_region_seq {P : Program} {l : List Oper} {id : Nat} {Q : Exit → Act → World → Prop} {S : World → Prop} {R : Option Nat} {n : Nat} {a : Act} {w : World} (f : Nat) (fl : List Bool) (hd : noDef l = true)
    (hm : P.follows .mixedOrders = true) (hsel : Region.noSelect l.toArray = true) (hB : seqOk l.toArray f fl l.length 0 (Array.replicate l.length false) = true)
    (hS : S { w with drawn := w.drawn + 1 }) (h : wpSeq true P l.toArray (Only Q) S fl l a { w with drawn := w.drawn + 1 }) : (Code.region id l.toArray true).wpIn (FW R) n P Q a w := by
  refine wpIn_region_anyL hm hd (wpAny_of_anyG _ _ _ _ (?_ : anyG P .any l.toArray (Only Q) S (fun i => i == f) l.toArray.size _ a _))
  have := anyG_of_seq (P := P) (Q := Only Q) (f := f) hsel (fun c a w h => h) l S fl 0 (Array.replicate l.length false) a _ (Dc.none _ _ _) (by simp) hB (.inr hS) h
  simpa using this

end Go.Proofs.Ytcdemjjgmnbkfaa
