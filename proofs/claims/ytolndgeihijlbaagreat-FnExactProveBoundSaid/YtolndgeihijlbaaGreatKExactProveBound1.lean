/- Parts of the proof: a logic of partial frames, plain functions, walks of the program's functions. Conditions: those that each statement names. -/
import Derived.Test.YtolndgeihijlbaaGreatChecked
import Derived.OrdersHeld
import Derived.Tactics
import Derived.Deep.RegionHeld3
import Derived.OrdersIn
import Derived.TacticsIn
import Derived.RangeFuncKeeps
import Derived.RangeFuncLeaves
import Derived.IntWalk
import Derived.Laws.AppendOwn
import Derived.Laws.MakeOwn
import Derived.Laws.CopyRow
import Derived.Laws.Small
import Derived.KernelRfl
namespace Go.Proofs.YtolndgeihijlbaaGreat
open Go
set_option linter.unusedSimpArgs false
set_option linter.unusedVariables false
theorem slr9 {A : Type} {l : List A} : l.Sublist l := List.Sublist.refl l
section
/-! ### Frames: what is known of the temporaries -/
abbrev Env := List (Nat × Value)
def look (s : Nat) : Env → Option Value
  | [] => none
  | (k, v) :: r => bif Nat.beq s k then some v else look s r

/-- n: the number of slots, and the calls that are deferred. -/
structure Fit (n : Nat × List Deferred) (G : Env) (a : Act) : Prop where
  defers : a.defers = n.2
  size : a.tmps.size = n.1
  get : ∀ s v, look s G = some v → s < n.1 ∧ a.tmps.getD s undef = v

theorem Fit.put {n : Nat × List Deferred} {G : Env} {a : Act} {d : Nat} {v : Value} (h : Fit n G a) (hd : d < n.1) : Fit n ((d, v) :: G) (a.put (some d) v) := by
  refine ⟨h.defers, by simp [Act.put, h.size], fun s u hs => ?_⟩
  simp only [look] at hs
  by_cases e : s = d
  · subst e
    simp at hs
    subst hs
    refine ⟨hd, ?_⟩
    simp [Act.put, Array.getD, h.size, hd]
  · have : Nat.beq s d = false := by
      cases hb : Nat.beq s d
      · rfl
      · exact absurd (Nat.eq_of_beq_eq_true hb) e
    simp only [this, cond_false] at hs
    obtain ⟨h1, h2⟩ := h.get s u hs
    refine ⟨h1, ?_⟩
    rw [← h2]
    have e' : d ≠ s := fun x => e x.symm
    simp [Act.put, Array.getD, h.size, h1, e']

theorem Fit.putNone {n : Nat × List Deferred} {G : Env} {a : Act} {v : Value} (h : Fit n G a) : Fit n G (a.put none v) := h

def ev (G : Env) : Operand → Option Value
  | .tmp t => look t G
  | .const v => some v
  | .global g => some (.pointer (some ⟨g, 0, none⟩))
  | .func f => some (.func (.func f) #[] #[])

theorem Fit.ev {n : Nat × List Deferred} {G : Env} {a : Act} (h : Fit n G a) {x : Operand} {v : Value} (hx : ev G x = some v) : a.eval x = v := by
  cases x with
  | tmp t => exact (h.get t v hx).2
  | const u => simpa [Proofs.YtolndgeihijlbaaGreat.ev, Act.eval] using hx
  | global g => simpa [Proofs.YtolndgeihijlbaaGreat.ev, Act.eval] using hx
  | func f => simpa [Proofs.YtolndgeihijlbaaGreat.ev, Act.eval] using hx

def evs (G : Env) : List Operand → Option (List Value)
  | [] => some []
  | x :: r => match ev G x, evs G r with
    | some v, some vs => some (v :: vs)
    | _, _ => none

theorem Fit.evs {n : Nat × List Deferred} {G : Env} {a : Act} (h : Fit n G a) : ∀ {xs : List Operand} {vs : List Value}, evs G xs = some vs → xs.map a.eval = vs
  | [], vs, hx => by simp [Proofs.YtolndgeihijlbaaGreat.evs] at hx; simp [hx]
  | x :: r, vs, hx => by
    simp only [Proofs.YtolndgeihijlbaaGreat.evs] at hx
    split at hx
    · rename_i v ws h1 h2
      simp at hx
      subst hx
      simp [h.ev h1, h.evs h2]
    · cases hx

/-- What is kept of a frame: the slots that are named, each with its value. -/
inductive Pick (G : Env) : Env → Prop
  | nil : Pick G []
  | cons {k : Nat} {v : Value} {G' : Env} (h : look k G = some v) (t : Pick G G') : Pick G ((k, v) :: G')

theorem Pick.look {G : Env} : ∀ {G' : Env}, Pick G G' → ∀ s v, look s G' = some v → Proofs.YtolndgeihijlbaaGreat.look s G = some v
  | _, .nil, s, v, h => by simp [Proofs.YtolndgeihijlbaaGreat.look] at h
  | _, .cons (k := k) hk t, s, v, h => by
    simp only [Proofs.YtolndgeihijlbaaGreat.look] at h
    by_cases e : Nat.beq s k = true
    · have := Nat.eq_of_beq_eq_true e
      subst this
      simp at h
      subst h
      exact hk
    · simp only [Bool.not_eq_true] at e
      simp only [e, cond_false] at h
      exact t.look s v h

theorem Pick.fit {n : Nat × List Deferred} {G G' : Env} {a : Act} (hp : Pick G G') (h : Fit n G a) : Fit n G' a :=
  ⟨h.defers, h.size, fun s v hs => h.get s v (hp.look s v hs)⟩

theorem Pick.app {G : Env} : ∀ {A B : Env}, Pick G A → Pick G B → Pick G (A ++ B)
  | _, _, .nil, hb => hb
  | _, _, .cons h t, hb => .cons h (t.app hb)

/-! ### Heaplets and the state of a walk -/
abbrev Hp := Nat → Option Obj
def sing (b : Nat) (o : Obj) : Hp := fun b' => if b' = b then some o else none
@[simp] theorem sing_self (b : Nat) (o : Obj) : sing b o b = some o := by simp [sing]
theorem sing_some {b b' : Nat} {o o' : Obj} (h : sing b o b' = some o') : b' = b ∧ o' = o := by
  unfold sing at h
  split at h
  · rename_i e; simp at h; exact ⟨e, h.symm⟩
  · cases h

def Agree (H : Hp) (w : World) : Prop := ∀ b o, H b = some o → w.heap[b]? = some o
theorem Agree.lt {H : Hp} {w : World} (h : Agree H w) {b : Nat} {o : Obj} (hb : H b = some o) : b < w.heap.size := by
  have := h b o hb
  exact (Array.getElem?_eq_some_iff.1 this).1

def NoX : Nat → Prop := fun _ => False
/-- The streams are as they were. -/
def Io (u v : World) : Prop := v.os = u.os ∧ v.output = u.output
theorem Io.refl (w : World) : Io w w := ⟨rfl, rfl⟩
theorem Io.trans {u v w : World} (h : Io u v) (k : Io v w) : Io u w := ⟨k.1.trans h.1, k.2.trans h.2⟩
/-- Blocks below the old size are as they were, but for those of X. -/
structure Ext (X : Nat → Prop) (w w' : World) : Prop where
  size : w.heap.size ≤ w'.heap.size
  same : ∀ b, b < w.heap.size → ¬ X b → w'.heap[b]? = w.heap[b]?
  io : Io w w'
theorem Ext.refl (X : Nat → Prop) (w : World) : Ext X w w := ⟨Nat.le_refl _, fun _ _ _ => rfl, Io.refl _⟩
theorem Ext.trans {X : Nat → Prop} {u v w : World} (h : Ext X u v) (k : Ext X v w) : Ext X u w :=
  ⟨Nat.le_trans h.size k.size, fun b hb hx => (k.same b (Nat.lt_of_lt_of_le hb h.size) hx).trans (h.same b hb hx), h.io.trans k.io⟩
theorem Ext.agree {w w' : World} {H : Hp} (h : Ext NoX w w') (hA : Agree H w) : Agree H w' :=
  fun b o hb => (h.same b (hA.lt hb) (fun x => x)).trans (hA b o hb)
theorem Ext.mono {X Y : Nat → Prop} {u v : World} (h : Ext X u v) (hx : ∀ b, b < u.heap.size → X b → Y b) : Ext Y u v :=
  ⟨h.size, fun b hb hy => h.same b hb (fun x => hy (hx b hb x)), h.io⟩

class In {α : Type} (a : α) (l : List α) : Prop where mem : a ∈ l
instance {α : Type} (a : α) (l : List α) : In a (a :: l) := ⟨.head _⟩
instance {α : Type} (a b : α) (l : List α) [h : In a l] : In a (b :: l) := ⟨.tail _ h.mem⟩
class AllIn {α : Type} (l m : List α) : Prop where all : ∀ a ∈ l, a ∈ m
instance {α : Type} (m : List α) : AllIn [] m := ⟨fun _ h => by cases h⟩
instance {α : Type} (a : α) (l m : List α) [h : In a m] [t : AllIn l m] : AllIn (a :: l) m :=
  ⟨fun x hx => by cases hx with | head => exact h.mem | tail _ h' => exact t.all x h'⟩
instance (priority := low) {α : Type} (l : List α) : AllIn l l := ⟨fun _ h => h⟩
theorem allIn_refl {α : Type} (l : List α) : AllIn l l := ⟨fun _ h => h⟩

def Apart (H K : Hp) : Prop := ∀ b, H b = none ∨ K b = none

/-- Whom a call works for: x: the blocks of the caller's that it may write; j: what it carries for the caller, a word on the world that holds whatever the call does to what is its own (D). -/
structure Side where
  m : Nat
  x : Nat → Prop
  j : (Nat → Prop) → World → Prop
  ok : ∀ {D D' : Nat → Prop} {w w' : World}, j D w → w.heap.size ≤ w'.heap.size → (∀ b, b < w.heap.size → ¬ D b → w'.heap[b]? = w.heap[b]?) → Io w w' → (∀ b, D' b → (D b ∨ w.heap.size ≤ b) ∧ b < w'.heap.size) → j D' w'
def Side.of (x : Nat → Prop) : Side := ⟨0, x, fun _ _ => True, fun _ _ _ _ _ => trivial⟩
/-- The same, with a size that the heap has at least. -/
def Side.mark (X : Side) (m : Nat) : Side := { X with m := m }
def noS : Side := .of NoX
/-- What is the call's own: what it may write, and what it has made. -/
def dm (B : World) (ims L : List Hp) : Nat → Prop := fun b => (∃ H ∈ L, H b ≠ none) ∨ (B.heap.size ≤ b ∧ ∃ H ∈ ims, H b ≠ none)
/-- B: the world when the call began. X: the blocks of the caller's that the call may write. ims: heaplets that nobody writes. L: heaplets that the call owns, apart from each other and from ims. -/
structure St (B : World) (X : Side) (ims : List Hp) (L : List Hp) (w : World) : Prop where
  size : B.heap.size ≤ w.heap.size
  ext : ∀ b, b < B.heap.size → ¬ X.x b → w.heap[b]? = B.heap[b]?
  im : ∀ H ∈ ims, Agree H w
  own : ∀ H ∈ L, Agree H w ∧ (∀ b, H b ≠ none → B.heap.size ≤ b ∨ X.x b) ∧ ∀ I ∈ ims, Apart H I
  nd : L.Pairwise Apart
  io : Io B w
  j : X.j (dm B ims L) w
  mrk : X.m ≤ w.heap.size

section states
variable {B : World} {X : Side} {ims ims' L L' : List Hp} {H : Hp} {w w' : World}
/-- What is the call's own is there. -/
theorem dm_lt (im : ∀ H ∈ ims, Agree H w) (own : ∀ H ∈ L, Agree H w) {b : Nat} (hb : dm B ims L b) : b < w.heap.size := by
  rcases hb with ⟨H, hH, hb⟩ | ⟨_, H, hH, hb⟩
  · cases hh : H b with
    | none => exact absurd hh hb
    | some o => exact (own H hH).lt hh
  · cases hh : H b with
    | none => exact absurd hh hb
    | some o => exact (im H hH).lt hh
theorem St.turn (h : St B X ims L w) (hs : w.heap.size ≤ w'.heap.size) (he : ∀ b, b < w.heap.size → ¬ dm B ims L b → w'.heap[b]? = w.heap[b]?) (hio : Io w w') (hd : ∀ b, dm B ims' L' b → dm B ims L b ∨ w.heap.size ≤ b)
    (ext : ∀ b, b < B.heap.size → ¬ X.x b → w'.heap[b]? = B.heap[b]?) (im : ∀ H ∈ ims', Agree H w')
    (own : ∀ H ∈ L', Agree H w' ∧ (∀ b, H b ≠ none → B.heap.size ≤ b ∨ X.x b) ∧ ∀ I ∈ ims', Apart H I) (nd : L'.Pairwise Apart) : St B X ims' L' w' :=
  ⟨Nat.le_trans h.size hs, ext, im, own, nd, h.io.trans hio, X.ok h.j hs he hio (fun b hb => ⟨hd b hb, dm_lt im (fun H hH => (own H hH).1) hb⟩), Nat.le_trans h.mrk hs⟩
theorem St.still (h : St B X ims L w) (hd : ∀ b, dm B ims' L' b → dm B ims L b) (im : ∀ H ∈ ims', Agree H w)
    (own : ∀ H ∈ L', Agree H w ∧ (∀ b, H b ≠ none → B.heap.size ≤ b ∨ X.x b) ∧ ∀ I ∈ ims', Apart H I) (nd : L'.Pairwise Apart) : St B X ims' L' w :=
  h.turn (Nat.le_refl _) (fun _ _ _ => rfl) (Io.refl _) (fun b hb => .inl (hd b hb)) h.ext im own nd
theorem St.init (h : ∀ H ∈ ims, Agree H w) : St w noS ims [] w :=
  ⟨Nat.le_refl _, fun _ _ _ => rfl, h, fun _ h => (by cases h), List.Pairwise.nil, Io.refl _, trivial, Nat.zero_le _⟩
theorem St.toExt (h : St B X ims L w) : Ext X.x B w := ⟨h.size, h.ext, h.io⟩
theorem St.agL (h : St B X ims L w) [i : In H L] : Agree H w := (h.own H i.mem).1

/-- A callee that writes nothing of what is there. -/
theorem St.call (h : St B X ims L w) (e : Ext NoX w w') : St B X ims L w' :=
  h.turn e.size (fun b hb _ => e.same b hb (fun x => x)) e.io (fun _ hb => .inl hb) (fun b hb hx => (e.same b (Nat.lt_of_lt_of_le hb h.size) (fun x => x)).trans (h.ext b hb hx))
   (fun H hH => e.agree (h.im H hH)) (fun H hH => ⟨e.agree (h.own H hH).1, (h.own H hH).2⟩) h.nd
/-- A fresh heaplet, owned. -/
theorem St.push (h : St B X ims L w) (e : Ext NoX w w') {H : Hp}
    (hA : Agree H w') (hf : ∀ b, H b ≠ none → w.heap.size ≤ b) : St B X ims (H :: L) w' := by
  have h' := h.call e
  have key : ∀ K : Hp, Agree K w → Apart H K := fun K hK b => by
    by_cases hb : H b = none
    · exact .inl hb
    · right
      cases hk : K b with
      | none => rfl
      | some o => exact absurd (hf b hb) (Nat.not_le.2 (hK.lt hk))
  refine h.turn e.size (fun b hb _ => e.same b hb (fun x => x)) e.io (fun b hb => ?_) h'.ext h'.im (fun K hK => ?_) ?_
  · rcases hb with ⟨K, hK, hb⟩ | hb
    · cases hK with
      | head => exact .inr (hf b hb)
      | tail _ hK => exact .inl (.inl ⟨K, hK, hb⟩)
    · exact .inl (.inr hb)
  · cases hK with
    | head => exact ⟨hA, fun b hb => .inl (Nat.le_trans h.size (hf b hb)), fun I hI => key I (h.im I hI)⟩
    | tail _ hK => exact h'.own K hK
  · exact .cons (fun K hK => key K (h.own K hK).1) h.nd
/-- The first owned heaplet is written no more. -/
theorem St.freeze (h : St B X ims (H :: L) w) : St B X (H :: ims) L w :=
  h.still (fun b hb => by
      rcases hb with ⟨K, hK, hb⟩ | ⟨hB, K, hK, hb⟩
      · exact .inl ⟨K, .tail _ hK, hb⟩
      · cases hK with
        | head => exact .inl ⟨H, .head _, hb⟩
        | tail _ hK => exact .inr ⟨hB, K, hK, hb⟩)
    (fun K hK => by
      cases hK with
      | head => exact (h.own H (.head _)).1
      | tail _ hK => exact h.im K hK)
    (fun K hK => ⟨(h.own K (.tail _ hK)).1, (h.own K (.tail _ hK)).2.1, fun I hI => by
      cases hI with
      | head => exact fun b => ((List.pairwise_cons.1 h.nd).1 K hK b).symm
      | tail _ hI => exact (h.own K (.tail _ hK)).2.2 I hI⟩)
    (List.pairwise_cons.1 h.nd).2
theorem St.pushIm (h : St B X ims L w) (e : Ext NoX w w') {H : Hp}
    (hA : Agree H w') (hf : ∀ b, H b ≠ none → w.heap.size ≤ b) : St B X (H :: ims) L w' := (h.push e hA hf).freeze
theorem St.weak (h : St B X ims L w) [i : AllIn ims' ims] (s : L'.Sublist L) : St B X ims' L' w :=
  h.still (fun b hb => by
      rcases hb with ⟨K, hK, hb⟩ | ⟨hB, K, hK, hb⟩
      · exact .inl ⟨K, s.mem hK, hb⟩
      · exact .inr ⟨hB, K, i.all K hK, hb⟩)
    (fun H hH => h.im H (i.all H hH)) (fun H hH => ⟨(h.own H (s.mem hH)).1, (h.own H (s.mem hH)).2.1, fun I hI => (h.own H (s.mem hH)).2.2 I (i.all I hI)⟩) (h.nd.sublist s)
theorem St.dropL (h : St B X ims (H :: L) w) : St B X ims L w := h.weak (i := allIn_refl _) (.cons _ slr9)
theorem St.addIm (h : St B X ims L w) {H : Hp} (hA : Agree H w) (hd : ∀ K ∈ L, Apart K H) (hdm : ∀ b, H b ≠ none → ∃ K ∈ ims, K b ≠ none) : St B X (H :: ims) L w :=
  h.still (fun b hb => by
      rcases hb with hb | ⟨hB, K, hK, hb⟩
      · exact .inl hb
      · cases hK with
        | head => exact .inr ⟨hB, hdm b hb⟩
        | tail _ hK => exact .inr ⟨hB, K, hK, hb⟩)
    (fun K hK => by
      cases hK with
      | head => exact hA
      | tail _ hK => exact h.im K hK)
    (fun K hK => ⟨(h.own K hK).1, (h.own K hK).2.1, fun I hI => by
      cases hI with
      | head => exact hd K hK
      | tail _ hI => exact (h.own K hK).2.2 I hI⟩) h.nd
end states
theorem St.ims {B : World} {X : Side} {l l' L : List Hp} {w : World} (h : St B X l L w) [i : AllIn l' l] : St B X l' L w := h.weak slr9
def orHp (H K : Hp) : Hp := fun b => (H b).or (K b)
theorem agree_or {H K : Hp} {w : World} (h : Agree H w) (k : Agree K w) : Agree (orHp H K) w := fun b o hb => by
  unfold orHp at hb
  cases hh : H b with
  | some x => rw [hh] at hb; simp at hb; subst hb; exact h b x hh
  | none => rw [hh] at hb; simp at hb; exact k b o hb

/-! ### The sequence of a region's operations -/
/-- dr: does the region draw its order; fl: which operations must leave the world alone (a missing entry: need not). S: what is known of the world. -/
def wpSeq (dr : Bool) (P : Program) (ops : Array Oper) (Q : Exit → Act → World → Prop) : (World → Prop) → List Bool → List Oper → Act → World → Prop
  | _, _, [], a, w => Q .normal a w
  | S, fl, o :: rest, a, w =>
    if Region.wanted o (yielded ops a.tmps) = true then
      (∃ v, (∀ w', S w' → (execOp a.eval o).run P w' = .ok (.value v) w') ∧ wpSeq dr P ops Q S fl.tail rest (a.put o.dst v) w) ∨
      ((dr = true → fl.headD false = false) ∧ o.wp P a w (fun a' w' => ∃ S2 : World → Prop, (rest = [] ∨ S2 w' ∧ (dr = true → ∀ u, S2 u → S u)) ∧ wpSeq dr P ops Q S2 fl.tail rest a' w') (fun _ _ _ => False))
    else wpSeq dr P ops Q S fl.tail rest (a.put o.dst undef) w

theorem wpSeq_false {P : Program} {ops : Array Oper} {Q : Exit → Act → World → Prop} {S S' : World → Prop} (hs : ∀ u, S' u → S u) : ∀ (fl : List Bool) (l : List Oper) (a : Act) (w : World),
    wpSeq false P ops Q S fl l a w → wpSeq false P ops Q S' fl l a w
  | _, [], _, _, h => h
  | fl, o :: rest, a, w, h => by
    unfold wpSeq at h ⊢
    split at h
    · rename_i hw
      rw [if_pos hw]
      rcases h with ⟨v, hv, h⟩ | ⟨h1, h2⟩
      · exact .inl ⟨v, fun w' hw' => hv w' (hs w' hw'), wpSeq_false hs fl.tail rest _ w h⟩
      · refine .inr ⟨h1, ?_⟩
        unfold Oper.wp at h2 ⊢
        generalize (execOp a.eval o).run P w = r at h2
        have key : ∀ a' w', (∃ S2 : World → Prop, (rest = [] ∨ S2 w' ∧ (false = true → ∀ u, S2 u → S u)) ∧ wpSeq false P ops Q S2 fl.tail rest a' w') →
            (∃ S2 : World → Prop, (rest = [] ∨ S2 w' ∧ (false = true → ∀ u, S2 u → S' u)) ∧ wpSeq false P ops Q S2 fl.tail rest a' w') :=
          fun a' w' ⟨S2, h3, h4⟩ => ⟨S2, h3.imp id (fun h => ⟨h.1, fun e => by cases e⟩), h4⟩
        cases r with
        | ok n w' =>
          cases n <;> simp only [Oper.upon] at h2 ⊢ <;> first
            | exact key _ _ h2
            | exact h2.mono (fun e w'' he => by cases e <;> first | exact key _ _ he | exact he)
            | exact h2.mono (fun v w'' he => key _ _ he)
        | halt x w' => cases x <;> simp only [Oper.upon] at h2 ⊢
    · rename_i hw
      rw [if_neg hw]
      exact wpSeq_false hs fl.tail rest _ w h

theorem oper_wp_noPanic {P : Program} {o : Oper} {a : Act} {w : World} {K K' : Act → World → Prop} {Q : Exit → Act → World → Prop} (hk : ∀ a w, K a w → K' a w)
    (h : o.wp P a w K (fun _ _ _ => False)) : o.wp P a w K' Q := by
  unfold Oper.wp at h ⊢
  generalize (execOp a.eval o).run P w = r at h
  cases r with
  | ok n w' =>
    cases n <;> simp only [Oper.upon] at h ⊢ <;> first
      | exact hk _ _ h
      | exact h.mono (fun e w'' he => by cases e <;> first | exact hk _ _ he | exact he.elim | exact (by obtain ⟨a, b, c⟩ := he; exact c.elim))
      | exact h.mono (fun v w'' he => hk _ _ he)
  | halt x w' => cases x <;> simp only [Oper.upon] at h ⊢

/-! ### A region that draws its order: the order of the text serves every order -/
/-- As the kit's law for held loads, but the operations of fx, which wait for all that are taken first, need not keep S. -/
def anyG (P : Program) (md : Region.Mode) (ops : Array Oper) (Q : Exit → Act → World → Prop) (S : World → Prop) (fx : Nat → Bool) : Nat → Array Bool → Act → World → Prop
  | 0, listed, a, w => Region.ready md ops listed = [] ∧ Q .normal a w
  | fuel + 1, listed, a, w =>
    (Region.ready md ops listed = [] → Q .normal a w) ∧
    ∀ i ∈ Region.ready md ops listed, wpOp P ops Q i (fun a' w' => (fx i = true ∨ S w') ∧ anyG P md ops Q S fx fuel (listed.setIfInBounds i true) a' w') a w

theorem wpAny_of_anyG {P : Program} {md : Region.Mode} {ops : Array Oper} {Q : Exit → Act → World → Prop} {S : World → Prop} {fx : Nat → Bool} :
    ∀ (fuel : Nat) (listed : Array Bool) (a : Act) (w : World), anyG P md ops Q S fx fuel listed a w → wpAny P md ops Q fuel listed a w
  | 0, _, _, _, h => h
  | fuel + 1, _, _, _, h => ⟨h.1, fun i hi => wpOp_mono (fun a' w' h' => wpAny_of_anyG fuel _ a' w' h'.2) (h.2 i hi)⟩

/-- What is listed waits for nothing that is not. -/
def Dc (md : Region.Mode) (ops : Array Oper) (listed : Array Bool) : Prop :=
  ∀ k o, listed.getD k false = true → ops[k]? = some o → ∀ e ∈ o.after, Region.binds md e = true → listed.getD e.on false = true
theorem getD_set_true {listed : Array Bool} {i k : Nat} (h : (listed.setIfInBounds i true).getD k false = true) : k = i ∨ listed.getD k false = true := by
  by_cases e : k = i
  · exact .inl e
  · right
    rwa [getD_set_false_ne e] at h
where
  getD_set_false_ne {listed : Array Bool} {i k : Nat} (e : k ≠ i) : (listed.setIfInBounds i true).getD k false = listed.getD k false := by
    have e' : i ≠ k := fun h => e h.symm
    simp only [Array.getD, Array.size_setIfInBounds]
    by_cases hk : k < listed.size
    · simp [hk, e']
    · simp [hk]
theorem getD_set_keep {listed : Array Bool} {i k : Nat} (h : listed.getD k false = true) : (listed.setIfInBounds i true).getD k false = true := by
  have hk : k < listed.size := by
    rcases Nat.lt_or_ge k listed.size with h' | h'
    · exact h'
    · simp [Array.getD, Nat.not_lt.2 h'] at h
  by_cases e : k = i
  · subst e; simp [Array.getD, hk]
  · have e' : i ≠ k := fun h => e h.symm
    simp [Array.getD, hk, e'] at h ⊢; exact h
theorem Dc.none (md : Region.Mode) (ops : Array Oper) (n : Nat) : Dc md ops (Array.replicate n false) := fun k o h => by
  simp [Array.getD] at h
/-- What an operation waits for, at however many removes. -/
def waitsB (md : Region.Mode) (ops : Array Oper) : Nat → Nat → Nat → Bool
  | 0, _, _ => false
  | fuel + 1, j, i => match ops[j]? with
    | none => false
    | some o => o.after.any fun e => Region.binds md e && (e.on == i || waitsB md ops fuel e.on i)
theorem waits_listed {md : Region.Mode} {ops : Array Oper} {listed : Array Bool} (hd : Dc md ops listed) {i : Nat} : ∀ (fuel j : Nat) (o : Oper), ops[j]? = some o → (∀ e ∈ o.after, Region.binds md e = true → listed.getD e.on false = true) →
    waitsB md ops fuel j i = true → listed.getD i false = true
  | 0, _, _, _, _, h => by cases h
  | fuel + 1, j, o, ho, hall, h => by
    unfold waitsB at h
    rw [ho] at h
    simp only [Array.any_eq_true, Bool.and_eq_true, Bool.or_eq_true, beq_iff_eq] at h
    obtain ⟨k, hk, hb, h | h⟩ := h
    · rw [← h]; exact hall _ (Array.getElem_mem hk) hb
    · have h1 := hall _ (Array.getElem_mem hk) hb
      cases ho2 : ops[(o.after[k]).on]? with
      | none =>
        cases fuel with
        | zero => cases h
        | succ fuel => unfold waitsB at h; rw [ho2] at h; cases h
      | some o2 => exact waits_listed hd fuel _ o2 ho2 (fun e he hb2 => hd _ o2 h1 ho2 e he hb2) h
theorem ready_all {md : Region.Mode} {ops : Array Oper} {listed : Array Bool} {j : Nat} (hj : j ∈ Region.ready md ops listed) : ∃ o, ops[j]? = some o ∧ (∀ e ∈ o.after, Region.binds md e = true → listed.getD e.on false = true) := by
  obtain ⟨_, oj, hoj, hall⟩ := mem_ready.1 hj
  exact ⟨oj, hoj, hall⟩
theorem Dc.set {md : Region.Mode} {ops : Array Oper} {listed : Array Bool} (hd : Dc md ops listed) {j : Nat} (hj : j ∈ Region.ready md ops listed) : Dc md ops (listed.setIfInBounds j true) := fun k o hk ho e he hb => by
  obtain ⟨oj, hoj, hall⟩ := ready_all hj
  rcases getD_set_true hk with rfl | hk
  · rw [hoj] at ho; cases ho; exact getD_set_keep (hall e he hb)
  · exact getD_set_keep (hd k o hk ho e he hb)

theorem anyG_first {P : Program} {md : Region.Mode} {ops : Array Oper} {Q : Exit → Act → World → Prop} {S : World → Prop} {fx : Nat → Bool} {i : Nat} {oi : Oper} {v : Value}
    (hi : ops[i]? = some oi) (hsel : ∀ (j : Nat) (o : Oper) cs b, ops[j]? = some o → o.op ≠ .select cs b)
    (hQ : ∀ c a w, Q (.panic c) (a.put oi.dst v) w → Q (.panic c) a w)
    :
    ∀ (fuel : Nat) (listed : Array Bool) (a : Act) (w : World), (∀ j, j < ops.size → fx j = true → listed.getD j false = true ∨ waitsB md ops ops.size j i = true) → Dc md ops listed →
      (∀ j oj, ops[j]? = some oj → j ≠ i → listed.getD j true = false → (∀ e ∈ oj.after, Region.binds md e = true → e.on ≠ i) → oi.apart ops oj = true) →
      i ∈ Region.ready md ops listed → YieldsIf P ops S oi v a → S w →
      anyG P md ops Q S fx fuel (listed.setIfInBounds i true) (a.put oi.dst v) w → anyG P md ops Q S fx (fuel + 1) listed a w := by
  intro fuel
  induction fuel with
  | zero =>
    intro listed a w _ _ _ hr hy hS H
    refine ⟨fun h => (by rw [h] at hr; cases hr), fun j hj => ?_⟩
    by_cases hji : j = i
    · subst hji; exact hy.wpOp hi hS ⟨.inr hS, H⟩
    · have := ready_mono hj hji
      rw [H.1] at this
      cases this
  | succ fuel ih =>
    intro listed a w hf hdc hfree hr hy hS H
    refine ⟨fun h => (by rw [h] at hr; cases hr), fun j hj => ?_⟩
    by_cases hji : j = i
    · subst hji; exact hy.wpOp hi hS ⟨.inr hS, H⟩
    · have h1 := H.2 j (ready_mono hj hji)
      obtain ⟨hjun, oj, hoj, hall⟩ := mem_ready.1 hj
      have hiun : listed.getD i false = false := by
        have h0 := (mem_ready.1 hr).1
        rcases Nat.lt_or_ge i listed.size with h' | h'
        · simpa [Array.getD, h'] using h0
        · simp [Array.getD, Nat.not_lt.2 h']
      have hnot : ∀ e ∈ oj.after, Region.binds md e = true → e.on ≠ i := fun e he hb heq => by
        have h1 := hall e he hb
        have h0 := (mem_ready.1 hr).1
        rw [heq] at h1
        rcases Nat.lt_or_ge i listed.size with h' | h'
        · simp [h'] at h0 h1; rw [h0] at h1; cases h1
        · simp [Array.getElem?_eq_none h'] at h1
      have hjf : fx j = false := by
        cases hfx : fx j with
        | false => rfl
        | true =>
          rcases hf j (Array.getElem?_eq_some_iff.1 hoj).1 hfx with h4 | h4
          · have h5 : listed.getD j false = false := by
              have h0 := hjun
              rcases Nat.lt_or_ge j listed.size with h' | h'
              · simpa [Array.getD, h'] using h0
              · simp [Array.getD, Nat.not_lt.2 h']
            rw [h5] at h4; cases h4
          · have := waits_listed hdc ops.size j oj hoj hall h4
            rw [hiun] at this; cases this
      have h2 := wpOp_putIf hoj (hfree j oj hoj hji hjun hnot) (fun cs b => hsel i oi cs b hi) (fun cs b => hsel j oj cs b hoj) hQ hy h1
      have hfree' : ∀ k ok, ops[k]? = some ok → k ≠ i → (listed.setIfInBounds j true).getD k true = false →
          (∀ e ∈ ok.after, Region.binds md e = true → e.on ≠ i) → oi.apart ops ok = true := fun k ok hk hki hun hno => by
        refine hfree k ok hk hki ?_ hno
        by_cases hjk : j = k
        · subst hjk; exact hjun
        · rw [getD_set_ne true hjk] at hun; exact hun
      refine wpOp_mono (fun a' w' h3 => ?_) h2
      have hS' : S w' := h3.2.1.resolve_left (by rw [hjf]; simp)
      refine ⟨.inr hS', ih (listed.setIfInBounds j true) a' w' (fun k hk hfk => (hf k hk hfk).imp getD_set_keep id) (hdc.set hj) hfree' (ready_mono hr (Ne.symm hji)) h3.1 hS' ?_⟩
      rw [Array.setIfInBounds_comm _ _ hji]
      exact h3.2.2

theorem anyG_mono {P : Program} {md : Region.Mode} {ops : Array Oper} {Q : Exit → Act → World → Prop} {S S' : World → Prop} {fx : Nat → Bool} (hs : ∀ w, S w → S' w) :
    ∀ (fuel : Nat) (listed : Array Bool) (a : Act) (w : World), anyG P md ops Q S fx fuel listed a w → anyG P md ops Q S' fx fuel listed a w
  | 0, _, _, _, h => h
  | fuel + 1, _, _, _, h => ⟨h.1, fun i hi => wpOp_mono (fun a' w' h' => ⟨h'.1.imp id (hs w'), anyG_mono hs fuel _ a' w' h'.2⟩) (h.2 i hi)⟩

/-- The check of the order of the text, by the kernel: a true in fl: the operation may be taken first; else it is the only one that may come up. f: the operation that need not keep S. -/
def seqOk (ops : Array Oper) (f : Nat) : List Bool → Nat → Nat → Array Bool → Bool
  | _, 0, _, listed => (Region.ready .any ops listed).isEmpty
  | fl, fuel + 1, k, listed =>
    (bif fl.headD false then
      (Region.ready .any ops listed).contains k && Region.free .any ops listed k && !(f == k) &&
        (match ops[f]? with | none => true | some o => o.after.any fun e => Region.binds .any e && e.on == k)
     else Region.ready .any ops listed == [k] && (!(fuel == 0) || f == k)) && seqOk ops f fl.tail fuel (k + 1) (listed.setIfInBounds k true)

theorem anyG_of_seq {P : Program} {ops : Array Oper} {Q : Exit → Act → World → Prop} {f : Nat}
    (hsel : Region.noSelect ops = true) (hQ : ∀ c a w, ¬ Q (.panic c) a w) :
    ∀ (l : List Oper) (S : World → Prop) (fl : List Bool) (k : Nat) (listed : Array Bool) (a : Act) (w : World), Dc .any ops listed → (∀ j, l[j]? = ops[k + j]?) →
      seqOk ops f fl l.length k listed = true → (l = [] ∨ S w) → wpSeq true P ops Q S fl l a w → anyG P .any ops Q S (fun i => i == f) l.length listed a w
  | [], _, _, _, _, a, w, _, _, hB, _, h => by
    refine ⟨?_, h⟩
    simpa [seqOk] using hB
  | o :: l, S, fl, k, listed, a, w, hdc, hl, hB, hk, h => by
    have hS : S w := hk.resolve_left (by simp)
    have h0 : ops[k]? = some o := by simpa using (hl 0).symm
    have hl' : ∀ j, l[j]? = ops[k + 1 + j]? := fun j => by have := hl (j + 1); simpa [Nat.add_assoc, Nat.add_comm 1 j] using this
    simp only [List.length_cons, seqOk, Bool.and_eq_true] at hB
    obtain ⟨hB1, hB2⟩ := hB
    unfold wpSeq at h
    by_cases hfl : fl.headD false = true
    · rw [hfl] at hB1
      simp only [cond_true, Bool.and_eq_true, Bool.not_eq_true', beq_eq_false_iff_ne] at hB1
      obtain ⟨⟨⟨hr, hfree⟩, hfk⟩, hwait⟩ := hB1
      have hwait' : ∀ j, j < ops.size → (j == f) = true → waitsB .any ops ops.size j k = true := fun j hj hjf => by
        have := beq_iff_eq.1 hjf
        subst this
        rw [Array.getElem?_eq_getElem hj] at hwait
        simp only [Array.any_eq_true, Bool.and_eq_true, beq_iff_eq] at hwait
        obtain ⟨i, hi, h1, h2⟩ := hwait
        obtain ⟨m, hm⟩ : ∃ m, ops.size = m + 1 := ⟨ops.size - 1, by omega⟩
        rw [hm]
        unfold waitsB
        rw [Array.getElem?_eq_getElem hj]
        simp only [Array.any_eq_true, Bool.and_eq_true, Bool.or_eq_true, beq_iff_eq]
        exact ⟨i, hi, h1, .inl h2⟩
      have hdc' : Dc .any ops (listed.setIfInBounds k true) := hdc.set (by simpa using hr)
      have main : ∀ v, YieldsIf P ops S o v a → wpSeq true P ops Q S fl.tail l (a.put o.dst v) w → anyG P .any ops Q S (fun i => i == f) (o :: l).length listed a w := fun v hy h =>
        anyG_first h0 (Region.noSelect_spec hsel) (fun c a w hq => (hQ c _ w hq).elim) l.length listed a w (fun j hj hjf => .inr (hwait' j hj hjf)) hdc (Region.free_spec h0 hfree) (by simpa using hr) hy hS
          (anyG_of_seq hsel hQ l S fl.tail (k + 1) _ _ w hdc' hl' hB2 (.inr hS) h)
      split at h
      · rename_i hw
        rcases h with ⟨v, hv, h⟩ | ⟨hno, _⟩
        · exact main v (.inl ⟨hw, hv⟩) h
        · rw [hno rfl] at hfl; cases hfl
      · rename_i hw
        exact main undef (.inr ⟨by simpa using hw, rfl⟩) h
    · simp only [Bool.not_eq_true] at hfl
      rw [hfl] at hB1
      simp only [cond_false, Bool.and_eq_true, beq_iff_eq, Bool.or_eq_true, Bool.not_eq_true', beq_eq_false_iff_ne] at hB1
      obtain ⟨hr, hlast⟩ := hB1
      have hdc' : Dc .any ops (listed.setIfInBounds k true) := hdc.set (by rw [hr]; simp)
      refine ⟨fun h' => absurd (hr ▸ h') (by simp), fun i hi => ?_⟩
      rw [hr] at hi
      simp only [List.mem_singleton] at hi
      subst hi
      have hlast' : ∀ S2 : World → Prop, ∀ w', (l = [] ∨ S2 w') → ((i == f) = true ∨ S2 w') := fun S2 w' h2 => by
        rcases h2 with h2 | h2
        · left
          rcases hlast with h3 | h3
          · subst h2; simp at h3
          · simpa using h3.symm
        · exact .inr h2
      unfold wpOp
      rw [h0]
      simp only
      split at h
      · rename_i hw
        rw [if_pos hw]
        left
        rcases h with ⟨v, hv, h⟩ | ⟨_, h⟩
        · unfold Oper.wp
          rw [hv w hS]
          exact ⟨.inr hS, anyG_of_seq hsel hQ l S fl.tail (i + 1) _ _ w hdc' hl' hB2 (.inr hS) h⟩
        · refine oper_wp_noPanic (fun a' w' h' => ?_) h
          obtain ⟨S2, h2, h3⟩ := h'
          have h4 := anyG_of_seq hsel hQ l S2 fl.tail (i + 1) _ _ w' hdc' hl' hB2 (h2.imp id (·.1)) h3
          rcases h2 with h2 | ⟨h2, h5⟩
          · refine ⟨hlast' S w' (.inl h2), ?_⟩
            subst h2
            exact h4
          · exact ⟨.inr (h5 rfl w' h2), anyG_mono (h5 rfl) _ _ _ _ h4⟩
      · rename_i hw
        rw [if_neg hw]
        exact ⟨.inr hS, anyG_of_seq hsel hQ l S fl.tail (i + 1) _ _ w hdc' hl' hB2 (.inr hS) h⟩

/-! ### The same in a round of a loop over a function -/
def FW (R : Option Nat) : Fence := ⟨fun _ => True, none, false, R⟩
theorem calls_FW {P : Program} {f : FuncId} {args : Array Value} {w : World} {E : Ending → World → Prop} {R : Option Nat} {n : Nat} (h : Calls P f args w E) : CallsIn (FW R) n P f args w E :=
  show CallsIn Fence.wide n P f args w E from callsIn_wide.2 h
theorem calls_of_FW {P : Program} {f : FuncId} {args : Array Value} {w : World} {E : Ending → World → Prop} {R : Option Nat} {n : Nat} (h : CallsIn (FW R) n P f args w E) : Calls P f args w E :=
  callsIn_wide.1 (show CallsIn Fence.wide n P f args w E from h)
theorem rows_FW {P : Program} {row : String} {args : Array Value} {w : World} {E : Value → World → Prop} {R : Option Nat} {n : Nat} (h : Rows P row args w E) : RowsIn (FW R) n P row args w E :=
  fun c cs _ => let ⟨v, w', r, s⟩ := h c cs; ⟨v, w', r, (stepsIn_wide (P := P)).2 s⟩
def noDef (l : List Oper) : Bool := l.all fun o => match o.op with | .defer _ => false | _ => true
theorem opIn_of {P : Program} {o : Oper} {a : Act} {w : World} {K : Act → World → Prop} {Q : Exit → Act → World → Prop} {R : Option Nat} {n : Nat} (hd : ∀ c, o.op ≠ .defer c) (h : o.wp P a w K Q) : o.wpIn (FW R) n P a w K Q := by
  refine ⟨fun _ _ => trivial, ?_⟩
  rw [Oper.semAt_eq _ _ _ hd]
  unfold Oper.wp at h
  generalize (execOp a.eval o).run P w = r at h
  cases r with
  | ok x w' =>
    cases x <;> simp only [Oper.upon, Oper.uponIn] at h ⊢ <;> first
      | exact h
      | exact ⟨fun e => (by cases e), calls_FW h⟩
      | exact ⟨fun e => (by cases e), rows_FW h⟩
  | halt x w' => cases x <;> simp only [Oper.upon, Oper.uponIn] at h ⊢ <;> exact h
theorem noDef_get {l : List Oper} (h : noDef l = true) {o : Oper} (ho : o ∈ l) : ∀ c, o.op ≠ .defer c := fun c e => by
  have := List.all_eq_true.1 h o ho
  rw [e] at this; cases this
theorem listIn_of_seq {P : Program} {ops : Array Oper} {Q : Exit → Act → World → Prop} {R : Option Nat} {n : Nat} : ∀ (l : List Oper) (S : World → Prop) (fl : List Bool) (a : Act) (w : World), noDef l = true →
    (l = [] ∨ S w) → wpSeq false P ops Q S fl l a w → wpListIn (FW R) n P ops Q l a w
  | [], _, _, _, _, _, _, h => h
  | o :: rest, S, fl, a, w, hd, hS, h => by
    have hS : S w := hS.resolve_left (by simp)
    have hr : noDef rest = true := by simp only [noDef, List.all_cons, Bool.and_eq_true] at hd; exact hd.2
    unfold wpSeq at h
    unfold wpListIn
    split at h
    · rename_i hw
      rw [if_pos hw]
      refine opIn_of (noDef_get hd (.head _)) ?_
      rcases h with ⟨v, hv, h⟩ | ⟨_, h⟩
      · unfold Oper.wp
        rw [hv w hS]
        exact listIn_of_seq rest S fl.tail _ w hr (.inr hS) h
      · refine oper_wp_noPanic (fun a' w' h' => ?_) h
        obtain ⟨S2, h2, h3⟩ := h'
        exact listIn_of_seq rest S2 fl.tail a' w' hr (h2.imp id (·.1)) h3
    · rename_i hw
      rw [if_neg hw]
      exact ⟨fun _ _ => trivial, listIn_of_seq rest S fl.tail _ w hr (.inr hS) h⟩
/-- The ways out that are no panic. -/
def Only (Q : Exit → Act → World → Prop) : Exit → Act → World → Prop
  | .panic _, _, _ => False
  | .outgrown, _, _ => False
  | e, a, w => Q e a w
theorem only_out {Q : Exit → Act → World → Prop} : ∀ e a w, Only Q e a w → Q e a w := fun e a w h => by
  cases e <;> first | exact h | exact h.elim
theorem only_let {Q : Exit → Act → World → Prop} : ¬ LetsOut (Only Q) := fun ⟨_, _, h⟩ => h
theorem anyIn_of {P : Program} {ops : Array Oper} {Q : Exit → Act → World → Prop} {md : Region.Mode} {R : Option Nat} {n : Nat} (hd : noDef ops.toList = true) (hQ : ¬ LetsOut Q) : ∀ (fuel : Nat) (listed : Array Bool) (a : Act) (w : World), wpAny P md ops Q fuel listed a w → wpAnyIn (FW R) n P md ops Q fuel listed a w
  | 0, _, _, _, h => h
  | fuel + 1, listed, a, w, h => ⟨h.1, fun i hi => by
    have h1 := h.2 i hi
    unfold wpOp at h1
    unfold wpOpIn
    cases ho : ops[i]? with
    | none => rw [ho] at h1; exact anyIn_of hd hQ fuel _ a w h1
    | some o =>
      rw [ho] at h1
      simp only at h1 ⊢
      split at h1
      · rename_i hw
        rw [if_pos hw]
        rcases h1 with h1 | h1
        · exact Oper.wpIn_mono (fun a' w' h' => anyIn_of hd hQ fuel _ a' w' h') (opIn_of (noDef_get hd (by rw [← Array.mem_toList_iff.symm]; exact Array.mem_of_getElem? ho)) h1)
        · exact (hQ h1.2).elim
      · rename_i hw
        rw [if_neg hw]
        exact ⟨fun _ _ => trivial, anyIn_of hd hQ fuel _ _ w h1⟩⟩
theorem wpIn_region_seqL {P : Program} {l : List Oper} {id : Nat} {Q : Exit → Act → World → Prop} {R : Option Nat} {n : Nat} {a : Act} {w : World} {S : World → Prop} (hd : noDef l = true) (hS : S w) (h : wpSeq false P l.toArray Q S [] l a w) : (Code.region id l.toArray false).wpIn (FW R) n P Q a w :=
  wpIn_region_lit (listIn_of_seq l S [] a w hd (.inr hS) h)
theorem wpIn_region_anyL {P : Program} {l : List Oper} {id : Nat} {Q : Exit → Act → World → Prop} {R : Option Nat} {n : Nat} {a : Act} {w : World} (hm : P.follows .mixedOrders = true) (hd : noDef l = true)
    (h : wpAny P .any l.toArray (Only Q) l.toArray.size (Array.replicate l.toArray.size false) a { w with drawn := w.drawn + 1 }) : (Code.region id l.toArray true).wpIn (FW R) n P Q a w :=
  wpIn_mono (wpIn_region_any hm (anyIn_of (by simpa using hd) only_let _ _ _ _ h)) only_out
theorem wpIn_region_seq {P : Program} {l : List Oper} {id : Nat} {Q : Exit → Act → World → Prop} {S : World → Prop} {R : Option Nat} {n : Nat} {a : Act} {w : World} (f : Nat) (fl : List Bool) (hd : noDef l = true)
    (hm : P.follows .mixedOrders = true) (hsel : Region.noSelect l.toArray = true) (hB : seqOk l.toArray f fl l.length 0 (Array.replicate l.length false) = true)
    (hS : S { w with drawn := w.drawn + 1 }) (h : wpSeq true P l.toArray (Only Q) S fl l a { w with drawn := w.drawn + 1 }) : (Code.region id l.toArray true).wpIn (FW R) n P Q a w := by
  refine wpIn_region_anyL hm hd (wpAny_of_anyG _ _ _ _ (?_ : anyG P .any l.toArray (Only Q) S (fun i => i == f) l.toArray.size _ a _))
  have := anyG_of_seq (P := P) (Q := Only Q) (f := f) hsel (fun c a w h => h) l S fl 0 (Array.replicate l.length false) a _ (Dc.none _ _ _) (by simp) hB (.inr hS) h
  simpa using this
end
section
structure Cx where
  P : Program
  n : Nat
  B : World
  X : Side
  lo : Bool
  df : List Deferred
  R : Option Nat
def Cx.m (C : Cx) : Nat × List Deferred := (C.n, C.df)
/-- Which heaplets of the call's own a drawn region keeps from operation to operation: in the low form none. -/
def Cx.W (C : Cx) (L : List Hp) : List Hp := bif C.lo then [] else L
theorem St.w {C : Cx} {B : World} {X : Side} {ims L : List Hp} {w : World} (h : St B X ims L w) : St B X ims (C.W L) w := by
  unfold Cx.W; cases C.lo with
  | true => show St B X ims [] w; exact h.weak (i := allIn_refl _) (List.nil_sublist _)
  | false => exact h
theorem St.wl {C : Cx} {B : World} {X : Side} {ims L L' : List Hp} {w : World} (s : L'.Sublist L) (h : St B X ims (C.W L) w) : St B X ims (C.W L') w := by
  unfold Cx.W at *
  cases e : C.lo <;> rw [e] at h
  · show St B X ims L' w; exact St.weak (L := L) (i := allIn_refl _) h s
  · exact h
theorem St.wlo {C : Cx} (hl : C.lo = true) {B : World} {X : Side} {ims L L' : List Hp} {w : World} (h : St B X ims (C.W L) w) : St B X ims (C.W L') w := by
  unfold Cx.W at *; rw [hl] at *; exact h
theorem Cx.whi {C : Cx} (hl : C.lo = false) (L : List Hp) : C.W L = L := by unfold Cx.W; rw [hl]; rfl

abbrev Post := Exit → Act → World → Prop

/-- What is left of a region. -/
def KL (C : Cx) (dr : Bool) (ops : Array Oper) (Q : Post) (ims L : List Hp) (fl : List Bool) (l : List Oper) (G : Env) : Prop :=
  ∀ a w, Fit C.m G a → St C.B C.X ims L w → wpSeq dr C.P ops Q (St C.B C.X ims (C.W L)) fl l a w
/-- A code. -/
def KC (C : Cx) (Q : Post) (ims L : List Hp) (c : Code) (G : Env) : Prop :=
  ∀ a w, Fit C.m G a → St C.B C.X ims L w → c.wpIn (FW C.R) 0 C.P Q a w

/-! ### Codes -/
section codes
variable {C : Cx} {Q : Post} {ims L : List Hp} {G : Env}

theorem cS {x y : Code} (h : KC C (Exit.then (y.wpIn (FW C.R) 0 C.P Q) Q) ims L x G) : KC C Q ims L (.seq x y) G := fun a w hf hs => wpIn_seq (h a w hf hs)
theorem bl {id : Nat} {c : Code} (h : KC C (Exit.inBlock id Q) ims L c G) : KC C Q ims L (.block id c) G := fun a w hf hs => wpIn_block (h a w hf hs)
theorem kl_pick {dr : Bool} {ops : Array Oper} {fl : List Bool} {l : List Oper} {G' : Env} (hp : Pick G G') (h : KL C dr ops Q ims L fl l G') : KL C dr ops Q ims L fl l G := fun a w hf hs => h a w (hp.fit hf) hs
/-- Behind a code that ends as it should, the post at hand. -/
def KQ (C : Cx) (ims L : List Hp) (G : Env) (p : Act → World → Prop) : Prop := ∀ a w, Fit C.m G a → St C.B C.X ims L w → p a w
theorem qc {c : Code} (h : KC C Q ims L c G) : KQ C ims L G (c.wpIn (FW C.R) 0 C.P Q) := h
theorem sk (h : KQ C ims L G (Q .normal)) : KC C Q ims L .skip G := fun a w hf hs => wpIn_skip (h a w hf hs)
theorem ex9 {id : Nat} (h : KQ C ims L G (Q (.exit id))) : KC C Q ims L (.exit id) G := fun a w hf hs => wpIn_exit (h a w hf hs)
theorem rt (h : KQ C ims L G (Q .ret)) : KC C Q ims L .ret G := fun a w hf hs => wpIn_ret (h a w hf hs)
theorem cr {id : Nat} {l : List Oper} (h : KL C false l.toArray Q ims L [] l G) (hd : noDef l = true := by rfl) : KC C Q ims L (.region id l.toArray false) G :=
  fun a w hf hs => wpIn_region_seqL hd hs.w (h a w hf hs)
theorem St.drew {B : World} {X : Side} {ims L : List Hp} {w : World} (h : St B X ims L w) : St B X ims L { w with drawn := w.drawn + 1 } := h.call ⟨Nat.le_refl _, fun _ _ _ => rfl, ⟨rfl, rfl⟩⟩
theorem kc_draw {id : Nat} {l : List Oper} (f : Nat) (fl : List Bool) (hm : C.P.follows .mixedOrders = true) (hB : (Region.noSelect l.toArray && seqOk l.toArray f fl l.length 0 (Array.replicate l.length false)) = true)
    (h : KL C true l.toArray (Only Q) ims L fl l G) (hd : noDef l = true := by rfl) : KC C Q ims L (.region id l.toArray true) G := fun a w hf hs => by
  rw [Bool.and_eq_true] at hB
  exact wpIn_region_seq f fl hd hm hB.1 hB.2 hs.drew.w (h a _ hf hs.drew)
theorem ln {dr : Bool} {ops : Array Oper} {fl : List Bool} (h : KQ C ims L G (Q .normal)) : KL C dr ops Q ims L fl [] G := fun a w hf hs => h a w hf hs
/-- The test of a Bool. -/
theorem cd9 {t : Nat} {x y : Code} {b : Bool} (hv : look t G = some (.bool b)) (h1 : b = true → KC C Q ims L x G) (h2 : b = false → KC C Q ims L y G) :
    KC C Q ims L (.cond (.tmp t) x y) G := fun a w hf hs => by
  have he : a.eval (.tmp t) = .bool b := (hf.get t _ hv).2
  refine wpIn_cond he ?_
  cases b with
  | true => exact h1 rfl a w hf hs
  | false => exact h2 rfl a w hf hs
/-- The test of a proposition. -/
theorem ci9 {t : Nat} {x y : Code} {p : Prop} {dp : Decidable p} (hv : look t G = some (.bool (@decide p dp))) (h1 : p → KC C Q ims L x G) (h2 : ¬ p → KC C Q ims L y G) :
    KC C Q ims L (.cond (.tmp t) x y) G := cd9 hv (fun h => h1 (of_decide_eq_true h)) (fun h => h2 (of_decide_eq_false h))
/-- A loop: x is the state; If, Lf, Gf: the heaplets and the slots as functions of it; Gx: the slots that the body does not write. -/
theorem kc_loop {A : Type} {body : Code} (J : A → Prop) (mu : A → Nat) (If Lf : A → List Hp) (Gf : A → Env) (x0 : A) {Gx : Env} {ims0 : List Hp}
    (hx : Pick G Gx) (hg : Pick G (Gf x0)) (hi : ims = If x0 ++ ims0) (hl : L = Lf x0) (h0 : J x0)
    (round : ∀ x, J x → KC C (Exit.then (fun a w => ∃ x', mu x' < mu x ∧ J x' ∧ Fit C.m (Gf x' ++ Gx) a ∧ St C.B C.X (If x' ++ ims0) (Lf x') w) Q) (If x ++ ims0) (Lf x) body (Gf x ++ Gx)) :
    KC C Q ims L (.loop body) G := fun a w hf hs => by
  subst hi hl
  have key : ∀ m x a w, mu x = m → J x → Fit C.m (Gf x ++ Gx) a → St C.B C.X (If x ++ ims0) (Lf x) w → (Code.loop body).wpIn (FW C.R) 0 C.P Q a w := by
    intro m x a w _ hJ hF hS
    refine wpIn_loop (I := fun a w => ∃ x, J x ∧ Fit C.m (Gf x ++ Gx) a ∧ St C.B C.X (If x ++ ims0) (Lf x) w)
      (μ := fun a w => Classical.epsilon fun m => (∃ x, mu x = m ∧ J x ∧ Fit C.m (Gf x ++ Gx) a ∧ St C.B C.X (If x ++ ims0) (Lf x) w) ∧ ∀ x, J x → Fit C.m (Gf x ++ Gx) a → St C.B C.X (If x ++ ims0) (Lf x) w → m ≤ mu x) ⟨x, hJ, hF, hS⟩ ?_
    intro a w hI
    have hmin : ∃ m, (∃ x, mu x = m ∧ J x ∧ Fit C.m (Gf x ++ Gx) a ∧ St C.B C.X (If x ++ ims0) (Lf x) w) ∧ ∀ x, J x → Fit C.m (Gf x ++ Gx) a → St C.B C.X (If x ++ ims0) (Lf x) w → m ≤ mu x := by
      have aux : ∀ k, (∃ x, mu x = k ∧ J x ∧ Fit C.m (Gf x ++ Gx) a ∧ St C.B C.X (If x ++ ims0) (Lf x) w) → ∃ m, (∃ x, mu x = m ∧ J x ∧ Fit C.m (Gf x ++ Gx) a ∧ St C.B C.X (If x ++ ims0) (Lf x) w) ∧ ∀ x, J x → Fit C.m (Gf x ++ Gx) a → St C.B C.X (If x ++ ims0) (Lf x) w → m ≤ mu x := by
        intro k
        induction k using Nat.strongRecOn with
        | _ k ih =>
          intro hk
          by_cases hlow : ∃ x, mu x < k ∧ J x ∧ Fit C.m (Gf x ++ Gx) a ∧ St C.B C.X (If x ++ ims0) (Lf x) w
          · obtain ⟨x, h1, h2⟩ := hlow
            exact ih (mu x) h1 ⟨x, rfl, h2⟩
          · exact ⟨k, hk, fun x h1 h2 h3 => Nat.le_of_not_lt fun h4 => hlow ⟨x, h4, h1, h2, h3⟩⟩
      obtain ⟨x, hx⟩ := hI
      exact aux (mu x) ⟨x, rfl, hx⟩
    obtain ⟨⟨x, hm, hJ, hF, hS⟩, hle⟩ := Classical.epsilon_spec hmin
    refine wpIn_mono (round x hJ a w hF hS) ?_
    intro e a' w' hq
    cases e with
    | normal =>
      obtain ⟨x', hlt, hJ', hF', hS'⟩ := hq
      refine ⟨⟨x', hJ', hF', hS'⟩, ?_⟩
      have hmin' : ∃ m, (∃ x, mu x = m ∧ J x ∧ Fit C.m (Gf x ++ Gx) a' ∧ St C.B C.X (If x ++ ims0) (Lf x) w') ∧ ∀ x, J x → Fit C.m (Gf x ++ Gx) a' → St C.B C.X (If x ++ ims0) (Lf x) w' → m ≤ mu x := by
        have aux : ∀ k, (∃ x, mu x = k ∧ J x ∧ Fit C.m (Gf x ++ Gx) a' ∧ St C.B C.X (If x ++ ims0) (Lf x) w') → ∃ m, (∃ x, mu x = m ∧ J x ∧ Fit C.m (Gf x ++ Gx) a' ∧ St C.B C.X (If x ++ ims0) (Lf x) w') ∧ ∀ x, J x → Fit C.m (Gf x ++ Gx) a' → St C.B C.X (If x ++ ims0) (Lf x) w' → m ≤ mu x := by
          intro k
          induction k using Nat.strongRecOn with
          | _ k ih =>
            intro hk
            by_cases hlow : ∃ x, mu x < k ∧ J x ∧ Fit C.m (Gf x ++ Gx) a' ∧ St C.B C.X (If x ++ ims0) (Lf x) w'
            · obtain ⟨x, h1, h2⟩ := hlow
              exact ih (mu x) h1 ⟨x, rfl, h2⟩
            · exact ⟨k, hk, fun x h1 h2 h3 => Nat.le_of_not_lt fun h4 => hlow ⟨x, h4, h1, h2, h3⟩⟩
        exact aux (mu x') ⟨x', rfl, hJ', hF', hS'⟩
      have h4 := (Classical.epsilon_spec hmin').2 x' hJ' hF' hS'
      exact Nat.lt_of_le_of_lt h4 (hm ▸ hlt)
    | exit id => exact hq
    | goto l => exact hq
    | ret => exact hq
    | panic c => exact hq
    | outgrown => exact hq
  exact key _ x0 a w rfl h0 ((hg.app hx).fit hf) hs
end codes

/-! ### Operations -/
section ops
variable {C : Cx} {dr : Bool} {ops : Array Oper} {Q : Post} {ims L : List Hp} {G : Env} {fl : List Bool} {rest : List Oper}
  {d ty : Nat} {pos : String} {af : Array Edge}

/-- What is behind a value: the operation with its guard struck. -/
theorem gT {od : Option Nat} {op : Op} {j dj : Nat} {b : Bool} (hj : (ops[j]?).bind (·.dst) = some dj) (hv : look dj G = some (.bool b)) {c : Bool} (hb : b = c)
    (h : KL C dr ops Q ims L fl (⟨od, op, ty, pos, af, none⟩ :: rest) G) : KL C dr ops Q ims L fl (⟨od, op, ty, pos, af, some (j, c)⟩ :: rest) G := fun a w hf hs => by
  have h1 := h a w hf hs
  obtain ⟨h2, h3⟩ := hf.get dj _ hv
  have hy : yielded ops a.tmps j = some c := by
    subst hb
    unfold yielded
    rw [hj]
    simp only [Option.bind_some]
    have : a.tmps[dj]? = some (.bool b) := by
      rw [Array.getElem?_eq_getElem (by rw [hf.size]; exact h2)]
      rw [← h3]
      simp [Array.getD, hf.size, h2]
    rw [this]
  unfold wpSeq at h1 ⊢
  simp only [Region.wanted, hy, beq_self_eq_true, if_true] at h1 ⊢
  exact h1
theorem gF {op : Op} {j dj : Nat} {b : Bool} (hj : (ops[j]?).bind (·.dst) = some dj) (hv : look dj G = some (.bool b)) {c : Bool} (hb : b = !c)
    (h : KL C dr ops Q ims L fl.tail rest ((d, undef) :: G)) (hlt : Nat.blt d C.n = true := by rfl) : KL C dr ops Q ims L fl (⟨some d, op, ty, pos, af, some (j, c)⟩ :: rest) G := fun a w hf hs => by
  obtain ⟨h2, h3⟩ := hf.get dj _ hv
  have hy : yielded ops a.tmps j = some b := by
    unfold yielded
    rw [hj]
    simp only [Option.bind_some]
    have : a.tmps[dj]? = some (.bool b) := by
      rw [Array.getElem?_eq_getElem (by rw [hf.size]; exact h2)]
      rw [← h3]
      simp [Array.getD, hf.size, h2]
    rw [this]
  unfold wpSeq
  have : Region.wanted ⟨some d, op, ty, pos, af, some (j, c)⟩ (yielded ops a.tmps) = false := by
    subst hb
    cases c <;> simp [Region.wanted, hy]
  rw [if_neg (by simp [this])]
  exact h _ w (hf.put (by simpa [Nat.blt_eq, Cx.m] using hlt)) hs

def Ev (G : Env) (r : Operand → Value) : Prop := ∀ x v, ev G x = some v → r x = v
theorem Fit.toEv {n : Nat × List Deferred} {a : Act} (h : Fit n G a) : Ev G a.eval := fun _ _ hx => h.ev hx
/-- An operation that yields a value in every world that fits. -/
theorem kl_y {op : Op} {v : Value} (hy : ∀ (r : Operand → Value) w, Ev G r → St C.B C.X ims (C.W L) w → (execOp r ⟨some d, op, ty, pos, af, none⟩).run C.P w = .ok (.value v) w)
    (h : KL C dr ops Q ims L fl.tail rest ((d, v) :: G)) (hlt : Nat.blt d C.n = true) : KL C dr ops Q ims L fl (⟨some d, op, ty, pos, af, none⟩ :: rest) G := fun a w hf hs => by
  unfold wpSeq
  rw [if_pos (by simp [Region.wanted])]
  exact .inl ⟨v, fun w' hs' => hy a.eval w' hf.toEv hs', h _ w (hf.put (by simpa [Nat.blt_eq, Cx.m] using hlt)) hs⟩

theorem mv {x : Operand} {v : Value} (hx : ev G x = some v) (h : KL C dr ops Q ims L fl.tail rest ((d, v) :: G)) (hlt : Nat.blt d C.n = true := by rfl) :
    KL C dr ops Q ims L fl (⟨some d, .move x, ty, pos, af, none⟩ :: rest) G :=
  kl_y (fun a w hf _ => by simp [go_sem, hf _ _ hx]) h hlt
theorem sg {x : Operand} {v : Value} (hx : ev G x = some v) (h : KL C dr ops Q ims L fl.tail rest ((d, v) :: G)) (hlt : Nat.blt d C.n = true := by rfl) :
    KL C dr ops Q ims L fl (⟨some d, .assign x, ty, pos, af, none⟩ :: rest) G :=
  kl_y (fun a w hf _ => by simp [go_sem, hf _ _ hx]) h hlt
theorem kl_pickT {c x y : Operand} {b : Bool} {v : Value} (hc : ev G c = some (.bool b)) (hb : b = true) (hx : ev G x = some v) (h : KL C dr ops Q ims L fl.tail rest ((d, v) :: G)) (hlt : Nat.blt d C.n = true := by rfl) :
    KL C dr ops Q ims L fl (⟨some d, .pick c x y, ty, pos, af, none⟩ :: rest) G :=
  kl_y (fun a w hf _ => by subst hb; simp [go_sem, hf _ _ hc, hf _ _ hx]) h hlt
theorem kl_pickF {c x y : Operand} {b : Bool} {v : Value} (hc : ev G c = some (.bool b)) (hb : b = false) (hx : ev G y = some v) (h : KL C dr ops Q ims L fl.tail rest ((d, v) :: G)) (hlt : Nat.blt d C.n = true := by rfl) :
    KL C dr ops Q ims L fl (⟨some d, .pick c x y, ty, pos, af, none⟩ :: rest) G :=
  kl_y (fun a w hf _ => by subst hb; simp [go_sem, hf _ _ hc, hf _ _ hx]) h hlt

/-! Integers. -/
theorem wrap_in {z : Int} (h : -9223372036854775808 ≤ z ∧ z ≤ 9223372036854775807) : IntKind.i64.wrap z = z := by rw [IntKind.wrap_i64]; omega

section ints
variable {x y : Operand} {T T2 : Nat} {m k : Int} (hx : ev G x = some (.int .i64 m)) (hy : ev G y = some (.int .i64 k))
include hx hy
theorem ad9 (hb : -9223372036854775808 ≤ m + k ∧ m + k ≤ 9223372036854775807) (h : KL C dr ops Q ims L fl.tail rest ((d, .int .i64 (m + k)) :: G)) (hlt : Nat.blt d C.n = true := by rfl) :
    KL C dr ops Q ims L fl (⟨some d, .binOp .add T x y T2, ty, pos, af, none⟩ :: rest) G :=
  kl_y (fun a w hf _ => by simp [go_sem, hf _ _ hx, hf _ _ hy, wrap_in hb]) h hlt
theorem sb9 (hb : -9223372036854775808 ≤ m - k ∧ m - k ≤ 9223372036854775807) (h : KL C dr ops Q ims L fl.tail rest ((d, .int .i64 (m - k)) :: G)) (hlt : Nat.blt d C.n = true := by rfl) :
    KL C dr ops Q ims L fl (⟨some d, .binOp .sub T x y T2, ty, pos, af, none⟩ :: rest) G :=
  kl_y (fun a w hf _ => by simp [go_sem, hf _ _ hx, hf _ _ hy, wrap_in hb]) h hlt
theorem kl_mul (hb : -9223372036854775808 ≤ m * k ∧ m * k ≤ 9223372036854775807) (h : KL C dr ops Q ims L fl.tail rest ((d, .int .i64 (m * k)) :: G)) (hlt : Nat.blt d C.n = true := by rfl) :
    KL C dr ops Q ims L fl (⟨some d, .binOp .mul T x y T2, ty, pos, af, none⟩ :: rest) G :=
  kl_y (fun a w hf _ => by simp [go_sem, hf _ _ hx, hf _ _ hy, wrap_in hb]) h hlt
theorem ls9 (h : KL C dr ops Q ims L fl.tail rest ((d, .bool (decide (m < k))) :: G)) (hlt : Nat.blt d C.n = true := by rfl) :
    KL C dr ops Q ims L fl (⟨some d, .binOp .lss T x y T2, ty, pos, af, none⟩ :: rest) G :=
  kl_y (fun a w hf _ => by simp [go_sem, hf _ _ hx, hf _ _ hy]) h hlt
theorem kl_leq (h : KL C dr ops Q ims L fl.tail rest ((d, .bool (decide (m ≤ k))) :: G)) (hlt : Nat.blt d C.n = true := by rfl) :
    KL C dr ops Q ims L fl (⟨some d, .binOp .leq T x y T2, ty, pos, af, none⟩ :: rest) G :=
  kl_y (fun a w hf _ => by simp [go_sem, hf _ _ hx, hf _ _ hy]) h hlt
theorem kl_gtr (h : KL C dr ops Q ims L fl.tail rest ((d, .bool (decide (k < m))) :: G)) (hlt : Nat.blt d C.n = true := by rfl) :
    KL C dr ops Q ims L fl (⟨some d, .binOp .gtr T x y T2, ty, pos, af, none⟩ :: rest) G :=
  kl_y (fun a w hf _ => by simp [go_sem, hf _ _ hx, hf _ _ hy]) h hlt
theorem kl_geq (h : KL C dr ops Q ims L fl.tail rest ((d, .bool (decide (k ≤ m))) :: G)) (hlt : Nat.blt d C.n = true := by rfl) :
    KL C dr ops Q ims L fl (⟨some d, .binOp .geq T x y T2, ty, pos, af, none⟩ :: rest) G :=
  kl_y (fun a w hf _ => by simp [go_sem, hf _ _ hx, hf _ _ hy]) h hlt
theorem eq9 (h : KL C dr ops Q ims L fl.tail rest ((d, .bool (decide (m = k))) :: G)) (hlt : Nat.blt d C.n = true := by rfl) :
    KL C dr ops Q ims L fl (⟨some d, .binOp .eql T x y T2, ty, pos, af, none⟩ :: rest) G :=
  kl_y (fun a w hf _ => by simp [go_sem, hf _ _ hx, hf _ _ hy]; rfl) h hlt
theorem kl_neq (h : KL C dr ops Q ims L fl.tail rest ((d, .bool (decide (m ≠ k))) :: G)) (hlt : Nat.blt d C.n = true := by rfl) :
    KL C dr ops Q ims L fl (⟨some d, .binOp .neq T x y T2, ty, pos, af, none⟩ :: rest) G :=
  kl_y (fun a w hf _ => by simp [go_sem, hf _ _ hx, hf _ _ hy, bne]; rw [Bool.eq_iff_iff]; simp) h hlt
theorem kl_rem (hk : k ≠ 0) (h : KL C dr ops Q ims L fl.tail rest ((d, .int .i64 (m.tmod k)) :: G)) (hlt : Nat.blt d C.n = true := by rfl) :
    KL C dr ops Q ims L fl (⟨some d, .binOp .rem T x y T2, ty, pos, af, none⟩ :: rest) G :=
  kl_y (fun a w hf _ => by simp [go_sem, hf _ _ hx, hf _ _ hy, hk]) h hlt
end ints
end ops
end
section
/-! ### Types -/
class IsSlice (P : Program) (T : Nat) (E k bytes : outParam Nat) (z : outParam Value) : Prop where
  u : P.underlying T = some (.slice E)
  i : (P.info? E).map (fun i => (i.zero, i.size, i.bytes)) = some (some z, k, bytes)
  z : z.cells.size = k
  p : 0 < k
class OneC (P : Program) (T : Nat) : Prop where
  u : (P.underlying T).map (fun d => match d with | .struct _ => false | .array _ _ => false | _ => true) = some true
  i : (P.info? T).map (·.size) = some 1
class AggC (P : Program) (T : Nat) (k : outParam Nat) : Prop where
  u : (P.underlying T).map (fun d => match d with | .struct _ => true | _ => false) = some true
  i : (P.info? T).map (·.size) = some k
  pos : 0 < k
class ZeroC (P : Program) (T : Nat) (z : outParam Value) : Prop where
  i : (P.info? T).map (·.zero) = some (some z)
class FieldC (P : Program) (T f : Nat) (off : outParam Nat) : Prop where
  u : ∃ fs fd, P.underlying T = some (.struct fs) ∧ fs[f]? = some fd ∧ fd.offset = off ∧ ((P.info? fd.type).map (fun i => decide (i.size ≠ 0)) = some true)

theorem OneC.run {P : Program} {T : Nat} [h : OneC P T] (w : World) : (isAgg T).run P w = .ok false w := by
  have := h.u
  cases hu : P.underlying T with
  | none => rw [hu] at this; simp at this
  | some d =>
    rw [hu] at this
    simp only [isAgg, Sem.run_bind, run_underlying hu, Result.andThen]
    cases d <;> simp at this ⊢
theorem AggC.run {P : Program} {T k : Nat} [h : AggC P T k] (w : World) : (isAgg T).run P w = .ok true w := by
  have := h.u
  cases hu : P.underlying T with
  | none => rw [hu] at this; simp at this
  | some d =>
    rw [hu] at this
    simp only [isAgg, Sem.run_bind, run_underlying hu, Result.andThen]
    cases d <;> simp at this ⊢
theorem sizeOf_run {P : Program} {T k : Nat} (h : (P.info? T).map (·.size) = some k) (w : World) : (Go.sizeOf T).run P w = .ok k w := by
  cases hi : P.info? T with
  | none => rw [hi] at h; simp at h
  | some i => rw [hi] at h; simp at h; simp [Go.sizeOf, typeInfo, hi, h]
theorem zeroValue_run {P : Program} {T : Nat} {z : Value} (h : (P.info? T).map (·.zero) = some (some z)) (w : World) : (zeroValue T).run P w = .ok z w := by
  cases hi : P.info? T with
  | none => rw [hi] at h; simp at h
  | some i => rw [hi] at h; simp at h; simp [zeroValue, typeInfo, hi, h]
theorem IsSlice.size {P : Program} {T E k bytes : Nat} {z : Value} (h : IsSlice P T E k bytes z) : (P.info? E).map (·.size) = some k := by
  have := h.i
  cases hi : P.info? E with
  | none => rw [hi] at this; simp at this
  | some i => rw [hi] at this; simp at this; simp [this]
theorem IsSlice.info {P : Program} {T E k bytes : Nat} {z : Value} (h : IsSlice P T E k bytes z) : ∃ i, P.info? E = some i ∧ i.zero = some z ∧ i.size = k ∧ i.bytes = bytes := by
  have := h.i
  cases hi : P.info? E with
  | none => rw [hi] at this; simp at this
  | some i => rw [hi] at this; simp at this; exact ⟨i, rfl, this.1, this.2.1, this.2.2⟩

/-! ### Representations -/
/-- p points to cells that hold vs. -/
def At (H : Hp) (p : Value) (vs : List Value) : Prop :=
  ∃ b o cs T fz, p = .pointer (some ⟨b, o, none⟩) ∧ H b = some (.cells cs T fz) ∧ ∀ j u, vs[j]? = some u → cs[o + j]? = some u
theorem At.drop {H : Hp} {b o : Nat} {vs : List Value} (h : At H (.pointer (some ⟨b, o, none⟩)) vs) (n : Nat) : At H (.pointer (some ⟨b, o + n, none⟩)) (vs.drop n) := by
  obtain ⟨b', o', cs, T, fz, hp, hb, hc⟩ := h
  simp at hp
  obtain ⟨rfl, rfl⟩ := hp
  exact ⟨b, o + n, cs, T, fz, rfl, hb, fun j u hj => by rw [List.getElem?_drop] at hj; rw [Nat.add_assoc]; exact hc _ _ hj⟩
theorem At.sing {b T : Nat} {cs : Array Value} {fz : Nat × Nat} : At (sing b (.cells cs T fz)) (.pointer (some ⟨b, 0, none⟩)) cs.toList :=
  ⟨b, 0, cs, T, fz, rfl, by simp, fun j u hj => by simpa using hj⟩
theorem At.mono {H K : Hp} {p : Value} {vs : List Value} (h : At H p vs) (hk : ∀ b o, H b = some o → K b = some o) : At K p vs := by
  obtain ⟨b, o, cs, T, fz, hp, hb, hc⟩ := h
  exact ⟨b, o, cs, T, fz, hp, hk _ _ hb, hc⟩
theorem At.orL {H K : Hp} {p : Value} {vs : List Value} (h : At H p vs) : At (orHp H K) p vs := h.mono fun b o hb => by simp [orHp, hb]

/-- v is a slice whose elements, k cells each, are xs by R. -/
def Sl {A : Type} (H : Hp) (k : Nat) (R : List Value → A → Prop) (v : Value) (xs : List A) : Prop :=
  ∃ a c, v = .slice a xs.length c ∧ xs.length ≤ c ∧ xs.length ≤ 140737488355328 ∧
    ∀ i (h : i < xs.length), ∃ b o, a = some ⟨b, o, none⟩ ∧ ∃ vs, vs.length = k ∧ R vs xs[i] ∧ At H (.pointer (some ⟨b, o + i * k, none⟩)) vs
theorem Sl.len {A : Type} {H : Hp} {k : Nat} {R : List Value → A → Prop} {v : Value} {xs : List A} (h : Sl H k R v xs) : xs.length ≤ 140737488355328 := by
  obtain ⟨a, c, _, _, h, _⟩ := h; exact h
theorem Sl.mono {A : Type} {H K : Hp} {k : Nat} {R R' : List Value → A → Prop} {v : Value} {xs : List A} (h : Sl H k R v xs) (hk : ∀ b o, H b = some o → K b = some o) (hr : ∀ vs x, R vs x → R' vs x) : Sl K k R' v xs := by
  obtain ⟨a, c, h1, h2, h3, h4⟩ := h
  exact ⟨a, c, h1, h2, h3, fun i hi => let ⟨b, o, e, vs, l, r, t⟩ := h4 i hi; ⟨b, o, e, vs, l, hr _ _ r, t.mono hk⟩⟩

def IntC (vs : List Value) (n : Int) : Prop := vs = [.int .i64 n]
def BoolC (vs : List Value) (b : Bool) : Prop := vs = [.bool b]
def SlC {A : Type} (H : Hp) (k : Nat) (R : List Value → A → Prop) (vs : List Value) (xs : List A) : Prop := ∃ v, vs = [v] ∧ Sl H k R v xs
abbrev Ints (H : Hp) (v : Value) (xs : List Int) : Prop := Sl H 1 IntC v xs
abbrev Rows (H : Hp) (v : Value) (xs : List (List Int)) : Prop := Sl H 1 (SlC H 1 IntC) v xs
abbrev Bools (H : Hp) (v : Value) (xs : List Bool) : Prop := Sl H 1 BoolC v xs

structure Con where
  kind : Int
  vars : List Int
  args : List Int
  bound : Int
  rows : List (List Int)
structure Mod where
  doms : List Int
  cons : List Con
def ConV (H : Hp) (vs : List Value) (c : Con) : Prop :=
  ∃ a b r, vs = [.int .i64 c.kind, a, b, .int .i64 c.bound, r] ∧ Ints H a c.vars ∧ Ints H b c.args ∧ Rows H r c.rows
abbrev Cons (H : Hp) (v : Value) (cs : List Con) : Prop := Sl H 5 (ConV H) v cs
def ConR (H : Hp) (v : Value) (c : Con) : Prop := ∃ vs : List Value, v = .agg vs.toArray ∧ ConV H vs c
def ModR (H : Hp) (v : Value) (m : Mod) : Prop := ∃ a b, v = .agg #[a, b] ∧ Ints H a m.doms ∧ Cons H b m.cons

theorem cell_at {H : Hp} {w : World} (hA : Agree H w) {b o : Nat} {vs : List Value} (h : At H (.pointer (some ⟨b, o, none⟩)) vs) {j : Nat} {u : Value} (hj : vs[j]? = some u) :
    w.cell? ⟨b, o + j, none⟩ = some u := by
  obtain ⟨b', o', cs, T, fz, hp, hb, hc⟩ := h
  simp at hp
  obtain ⟨rfl, rfl⟩ := hp
  simp [World.cell?, hA _ _ hb, hc _ _ hj]

section ops
variable {C : Cx} {dr : Bool} {ops : Array Oper} {Q : Post} {ims L : List Hp} {G : Env} {fl : List Bool} {rest : List Oper}
  {d ty : Nat} {pos : String} {af : Array Edge}

/-! ### Reading -/
theorem le9 {A : Type} {H : Hp} {k : Nat} {R : List Value → A → Prop} {v : Value} {xs : List A} {x : Operand} {T E k' by' : Nat} {z : Value} [hT : IsSlice C.P T E k' by' z]
    (hx : ev G x = some v) (hv : Sl H k R v xs) (h : xs.length ≤ 140737488355328 → KL C dr ops Q ims L fl.tail rest ((d, .int .i64 xs.length) :: G)) (hlt : Nat.blt d C.n = true := by rfl) :
    KL C dr ops Q ims L fl (⟨some d, .call ⟨.builtin .len, #[x], #[T]⟩, ty, pos, af, none⟩ :: rest) G :=
  kl_y (fun r w hr _ => by
    obtain ⟨a, c, rfl, _⟩ := hv
    simp [go_sem, hr _ _ hx, Builtin.len_, run_underlying hT.u, goInt]) (h hv.len) hlt
theorem Sl.index {A : Type} {H : Hp} {k : Nat} {R : List Value → A → Prop} {v : Value} {xs : List A} (hv : Sl H k R v xs) {i : Nat} (hi : i < xs.length) :
    ∃ p vs, vs.length = k ∧ R vs xs[i] ∧ At H p vs ∧ ∀ (P : Program) (T E by' : Nat) (z : Value), IsSlice P T E k by' z → ∀ w, (Instr.indexAt T v (.int .i64 (i : Int))).run P w = .ok p w := by
  obtain ⟨a, c, rfl, _, _, h4⟩ := hv
  obtain ⟨b, o, rfl, vs, hl, hr, hat⟩ := h4 i hi
  refine ⟨_, vs, hl, hr, hat, fun P T E by' z hT w => ?_⟩
  have hi' : ¬ xs.length ≤ i := by omega
  simp [go_sem, Instr.indexAt, run_underlying hT.u, sizeOf_run hT.size, Addr.add_lit, hi']

theorem kl_ix {A : Type} {H : Hp} {k : Nat} {R : List Value → A → Prop} {v : Value} {xs : List A} {x y : Operand} {i : Int} {T E by' : Nat} {z : Value} [hT : IsSlice C.P T E k by' z]
    (hx : ev G x = some v) (hy : ev G y = some (.int .i64 i)) (hv : Sl H k R v xs) (h0 : 0 ≤ i) (h1 : i < xs.length)
    (h : ∀ p vs, (∀ df, R vs (xs.getD i.toNat df)) → At H p vs → KL C dr ops Q ims L fl.tail rest ((d, p) :: G)) (hlt : Nat.blt d C.n = true := by rfl) :
    KL C dr ops Q ims L fl (⟨some d, .indexAddr T x y, ty, pos, af, none⟩ :: rest) G := by
  have hi : i.toNat < xs.length := by omega
  obtain ⟨p, vs, _, hR, hat, hrun⟩ := hv.index hi
  refine kl_y (v := p) (fun r w hr _ => ?_) (h p vs (fun df => by simpa [List.getD_eq_getElem?_getD, hi] using hR) hat) hlt
  have h2 := hrun C.P T E by' z hT w
  rw [Int.toNat_of_nonneg h0] at h2
  simp [go_sem, hr _ _ hx, hr _ _ hy, h2]
theorem kl_ixI {H : Hp} {v : Value} {xs : List Int} {x y : Operand} {i : Int} {T E by' : Nat} {z : Value} [hT : IsSlice C.P T E 1 by' z]
    (hx : ev G x = some v) (hy : ev G y = some (.int .i64 i)) (hv : Ints H v xs) (h0 : 0 ≤ i) (h1 : i < xs.length)
    (h : ∀ p, At H p [.int .i64 (xs.getD i.toNat 0)] → KL C dr ops Q ims L fl.tail rest ((d, p) :: G)) (hlt : Nat.blt d C.n = true := by rfl) :
    KL C dr ops Q ims L fl (⟨some d, .indexAddr T x y, ty, pos, af, none⟩ :: rest) G :=
  kl_ix hx hy hv h0 h1 (fun p vs hR hat => h p (by have := hR 0; unfold IntC at this; subst this; exact hat)) hlt
theorem kl_ixS {A : Type} {H K : Hp} {k : Nat} {R : List Value → A → Prop} {v : Value} {xs : List (List A)} {x y : Operand} {i : Int} {T E by' : Nat} {z : Value} [hT : IsSlice C.P T E 1 by' z]
    (hx : ev G x = some v) (hy : ev G y = some (.int .i64 i)) (hv : Sl H 1 (SlC K k R) v xs) (h0 : 0 ≤ i) (h1 : i < xs.length)
    (h : ∀ p u, Sl K k R u (xs.getD i.toNat []) → At H p [u] → KL C dr ops Q ims L fl.tail rest ((d, p) :: G)) (hlt : Nat.blt d C.n = true := by rfl) :
    KL C dr ops Q ims L fl (⟨some d, .indexAddr T x y, ty, pos, af, none⟩ :: rest) G :=
  kl_ix hx hy hv h0 h1 (fun p vs hR hat => by
    obtain ⟨u, hu, hs⟩ := hR []
    subst hu
    exact h p u hs hat) hlt
theorem ld {H : Hp} {p v : Value} {vs : List Value} {x : Operand} {T : Nat} [hT : OneC C.P T] [hi : In H ims] (hx : ev G x = some p) (hp : At H p (v :: vs))
    (h : KL C dr ops Q ims L fl.tail rest ((d, v) :: G)) (hlt : Nat.blt d C.n = true := by rfl) : KL C dr ops Q ims L fl (⟨some d, .load T x, ty, pos, af, none⟩ :: rest) G :=
  kl_y (fun r w hr hs => by
    have hat := hp
    obtain ⟨b, o, cs, T', fz, rfl, _⟩ := hp
    have hc : w.cell? ⟨b, o, none⟩ = some v := cell_at (hs.im H hi.mem) hat (j := 0) (u := v) rfl
    simp [go_sem, hr _ _ hx, Instr.loadAt, loadVar, OneC.run, hc]) h hlt
theorem loadCells_at {P : Program} {H : Hp} {w : World} (hA : Agree H w) {b o : Nat} {vs : List Value} (h : At H (.pointer (some ⟨b, o, none⟩)) vs) :
    (loadCells ⟨b, o, none⟩ vs.length).run P w = .ok vs.toArray w :=
  run_loadCells_list w ⟨b, o, none⟩ vs fun j u hj => by rw [Addr.add_lit]; exact cell_at hA h hj
theorem kl_ldS {H : Hp} {p : Value} {vs : List Value} {x : Operand} {T k : Nat} [hT : AggC C.P T k] [hi : In H ims] (hx : ev G x = some p) (hp : At H p vs) (hk : Nat.beq vs.length k = true)
    (h : KL C dr ops Q ims L fl.tail rest ((d, .agg vs.toArray) :: G)) (hlt : Nat.blt d C.n = true := by rfl) : KL C dr ops Q ims L fl (⟨some d, .load T x, ty, pos, af, none⟩ :: rest) G :=
  kl_y (fun r w hr hs => by
    have hat := hp
    obtain ⟨b, o, cs, T', fz, rfl, _⟩ := hp
    have hc := loadCells_at (P := C.P) (hs.im H hi.mem) hat
    rw [Nat.eq_of_beq_eq_true hk] at hc
    have h1 : (Instr.loadAt T (.pointer (some ⟨b, o, none⟩))).run C.P w = .ok (.agg vs.toArray) w := by
      simp only [Instr.loadAt, Instr.sureAddr, loadVar, Sem.run_bind, Sem.run_pure, Result.andThen_ok, AggC.run, sizeOf_run hT.i, hc, if_true]
    simp only [execOp, Sem.run_bind, hr _ _ hx, h1, Result.andThen_ok, Sem.run_pure]) h hlt
theorem fieldAt_run {P : Program} {T f off : Nat} [hF : FieldC P T f off] (b o : Nat) (w : World) :
    (Instr.fieldAt T (.pointer (some ⟨b, o, none⟩)) f).run P w = .ok (.pointer (some ⟨b, o + off, none⟩)) w := by
  obtain ⟨fs, fd, hu, hf, ho, hz⟩ := hF.u
  cases hi : P.info? fd.type with
  | none => rw [hi] at hz; simp at hz
  | some i =>
    rw [hi] at hz
    simp at hz
    simp [Instr.fieldAt, run_underlying hu, hf, go_sem, fieldPlace, sizeOf_run (P := P) (T := fd.type) (k := i.size) (by simp [hi]), hz, Addr.add_lit, ho]
theorem fd9 {H : Hp} {p : Value} {vs : List Value} {x : Operand} {T f off : Nat} [hF : FieldC C.P T f off] (hx : ev G x = some p) (hp : At H p vs)
    (h : ∀ p', At H p' (vs.drop off) → KL C dr ops Q ims L fl.tail rest ((d, p') :: G)) (hlt : Nat.blt d C.n = true := by rfl) :
    KL C dr ops Q ims L fl (⟨some d, .fieldAddr T x f, ty, pos, af, none⟩ :: rest) G := by
  have hat := hp
  obtain ⟨b, o, cs, T', fz, rfl, _⟩ := hp
  refine kl_y (fun r w hr hs => ?_) (h _ (hat.drop off)) hlt
  simp only [execOp, Sem.run_bind, hr _ _ hx, fieldAt_run, Result.andThen_ok, Sem.run_pure]
theorem fV {b o : Nat} {x : Operand} {T f off : Nat} [hF : FieldC C.P T f off] (hx : ev G x = some (.pointer (some ⟨b, o, none⟩)))
    (h : KL C dr ops Q ims L fl.tail rest ((d, .pointer (some ⟨b, o + off, none⟩)) :: G)) (hlt : Nat.blt d C.n = true := by rfl) :
    KL C dr ops Q ims L fl (⟨some d, .fieldAddr T x f, ty, pos, af, none⟩ :: rest) G :=
  kl_y (fun r w hr hs => by simp only [execOp, Sem.run_bind, hr _ _ hx, fieldAt_run, Result.andThen_ok, Sem.run_pure]) h hlt
theorem kl_nilchk {x : Operand} {a : Addr} (hx : ev G x = some (.pointer (some a)))
    (h : KL C dr ops Q ims L fl.tail rest ((d, .pointer (some a)) :: G)) (hlt : Nat.blt d C.n = true := by rfl) :
    KL C dr ops Q ims L fl (⟨some d, .nilCheck x, ty, pos, af, none⟩ :: rest) G :=
  kl_y (fun r w hr hs => by simp [go_sem, hr _ _ hx]) h hlt
theorem kl_nilchkA {H : Hp} {p : Value} {vs : List Value} {x : Operand} (hx : ev G x = some p) (hp : At H p vs)
    (h : KL C dr ops Q ims L fl.tail rest ((d, p) :: G)) (hlt : Nat.blt d C.n = true := by rfl) :
    KL C dr ops Q ims L fl (⟨some d, .nilCheck x, ty, pos, af, none⟩ :: rest) G := by
  obtain ⟨b, o, cs, T', fz, rfl, _⟩ := hp
  exact kl_nilchk hx h hlt
theorem nt9 {x : Operand} {T : Nat} {b : Bool} (hx : ev G x = some (.bool b)) (h : KL C dr ops Q ims L fl.tail rest ((d, .bool (!b)) :: G)) (hlt : Nat.blt d C.n = true := by rfl) :
    KL C dr ops Q ims L fl (⟨some d, .unOp .not T x, ty, pos, af, none⟩ :: rest) G :=
  kl_y (fun r w hr hs => by simp [go_sem, hr _ _ hx, Op.unary]) h hlt
theorem kl_mkf {f : Fn} {xs : List Operand} {vs : List Value} (hx : evs G xs = some vs) (h : KL C dr ops Q ims L fl.tail rest ((d, .func f #[] vs.toArray) :: G)) (hlt : Nat.blt d C.n = true := by rfl) :
    KL C dr ops Q ims L fl (⟨some d, .makeFunc f #[] xs.toArray, ty, pos, af, none⟩ :: rest) G :=
  kl_y (fun r w hr hs => by
    have : ∀ {xs : List Operand} {vs : List Value}, evs G xs = some vs → xs.map r = vs := by
      intro xs
      induction xs with
      | nil => intro vs h; simp [evs] at h; simp [h]
      | cons x t ih =>
        intro vs h
        simp only [evs] at h
        split at h
        · rename_i v ws h1 h2
          simp at h; subst h
          simp [hr _ _ h1, ih h2]
        · cases h
    simp [execOp, Instr.makeFunc, this hx]) h hlt
theorem kl_xt {x : Operand} {vs : List Value} {i : Nat} {v : Value} (hx : ev G x = some (.tuple vs.toArray)) (hv : vs[i]? = some v) (h : KL C dr ops Q ims L fl.tail rest ((d, v) :: G)) (hlt : Nat.blt d C.n = true := by rfl) :
    KL C dr ops Q ims L fl (⟨some d, .extract x i, ty, pos, af, none⟩ :: rest) G :=
  kl_y (fun r w hr hs => by simp [go_sem, hr _ _ hx, Instr.extract, hv]) h hlt
end ops
end
section
def noHp : Hp := fun _ => none
theorem agree_no (w : World) : Agree noHp w := fun _ _ h => by cases h
def Fresh (B : World) (H : Hp) : Prop := ∀ b, H b ≠ none → B.heap.size ≤ b
/-- Rows of cells that are not frozen. -/
def Liq (H : Hp) : Prop := ∀ b o, H b = some o → ∃ cs T, o = .cells cs T (0, 0)
/-- New memory. -/
def Fr (B : World) (H : Hp) : Prop := Fresh B H ∧ Liq H
theorem fr_no (B : World) : Fr B noHp := ⟨fun _ h => absurd rfl h, fun _ _ h => by cases h⟩
theorem fr_or {B : World} {H K : Hp} (h : Fr B H) (k : Fr B K) : Fr B (orHp H K) := ⟨fun b hb => by
  by_cases hh : H b = none
  · exact k.1 b (by simpa [orHp, hh] using hb)
  · exact h.1 b hh, fun b o hb => by
  unfold orHp at hb
  cases hh : H b with
  | some x => rw [hh] at hb; simp at hb; subst hb; exact h.2 b x hh
  | none => rw [hh] at hb; simp at hb; exact k.2 b o hb⟩
theorem fresh_sing {B : World} {b : Nat} {o : Obj} (h : B.heap.size ≤ b) : Fresh B (sing b o) := fun b' hb => by
  by_cases e : b' = b
  · exact e ▸ h
  · simp [sing, e] at hb
theorem liq_sing {b T : Nat} {cs : Array Value} : Liq (sing b (.cells cs T (0, 0))) := fun b' o hb => by
  obtain ⟨rfl, rfl⟩ := sing_some hb; exact ⟨_, _, rfl⟩
theorem fr_sing {B : World} {b T : Nat} {cs : Array Value} (h : B.heap.size ≤ b) : Fr B (sing b (.cells cs T (0, 0))) := ⟨fresh_sing h, liq_sing⟩

/-- How a call ends: it returns v, writes nothing that was there; H: new memory that holds what v leads to. -/
def Res (w : World) (phi : Hp → Value → Prop) : Ending → World → Prop
  | .returned v, w' => Ext NoX w w' ∧ ∃ H, Agree H w' ∧ Fr w H ∧ phi H v
  | _, _ => False
def Spec (P : Program) (f : FuncId) (args : List Value) (ims : List Hp) (phi : Hp → Value → Prop) : Prop :=
  ∀ w, (∀ H ∈ ims, Agree H w) → Calls P f args.toArray w (Res w phi)
/-- The same where the value alone counts. -/
def SpecP (P : Program) (f : FuncId) (args : List Value) (ims : List Hp) (v0 : Value) : Prop := Spec P f args ims (fun _ v => v = v0)
theorem Spec.mono {P : Program} {f : FuncId} {args : List Value} {ims : List Hp} {p q : Hp → Value → Prop} (h : Spec P f args ims p) (hq : ∀ H v, p H v → q H v) : Spec P f args ims q :=
  fun w hA => (h w hA).mono fun e w' he => by
    cases e with
    | returned v => obtain ⟨h1, H, h2, h3, h4⟩ := he; exact ⟨h1, H, h2, h3, hq _ _ h4⟩
    | panicked c => exact he
    | outgrown => exact he
def pars : Nat → List Value → Env
  | _, [] => []
  | k, v :: r => (k, v) :: pars (k + 1) r
theorem look_pars : ∀ (vs : List Value) (k s : Nat) (v : Value), look s (pars k vs) = some v → k ≤ s ∧ vs[s - k]? = some v
  | [], _, _, _, h => by simp [pars, look] at h
  | u :: r, k, s, v, h => by
    simp only [pars, look] at h
    by_cases e : Nat.beq s k = true
    · have := Nat.eq_of_beq_eq_true e
      subst this
      simp at h
      simp [h]
    · simp only [Bool.not_eq_true] at e
      simp only [e, cond_false] at h
      obtain ⟨h1, h2⟩ := look_pars r (k + 1) s v h
      refine ⟨by omega, ?_⟩
      have : s - k = (s - (k + 1)) + 1 := by omega
      rw [this]
      simpa using h2
theorem fit_pars {n : Nat} {vs : List Value} (h : vs.length ≤ n) : Fit (n, []) (pars 0 vs) { tmps := vs.toArray ++ Array.replicate (n - vs.toArray.size) undef, defers := [] } := by
  refine ⟨rfl, by simp; omega, fun s v hs => ?_⟩
  obtain ⟨_, h2⟩ := look_pars vs 0 s v hs
  simp at h2
  have hlt : s < vs.length := by
    rcases Nat.lt_or_ge s vs.length with h' | h'
    · exact h'
    · simp [List.getElem?_eq_none h'] at h2
  refine ⟨by omega, ?_⟩
  have h3 := (List.getElem?_eq_some_iff.1 h2).2
  simp [Array.getElem?_append, hlt, h3]

theorem spec_of {P : Program} {f : FuncId} {fn : Func} {c : Code} {vs : List Value} {n : Nat} {ims : List Hp} {phi : Hp → Value → Prop}
    (hf : P.funcs[f]? = some fn) (hb : fn.body = some c) (hn : fn.ntmps = n) (hle : Nat.ble vs.length n = true)
    (h : ∀ B, KC ⟨P, n, B, noS, false, [], none⟩ (bodyPost P fn (Res B phi)) ims [] c (pars 0 vs)) : Spec P f vs ims phi := fun w hA => by
  refine calls_of_wp hf hb ((wpIn_wide (n := 0)).1 ?_)
  rw [hn]
  exact h w _ w (fit_pars (Nat.le_of_ble_eq_true hle)) (St.init hA)

class FnC (P : Program) (g : Nat) : Prop where
  run : ∀ args w, (callFunc g args).run P w = .ok (.enter g args) w
theorem fnC_of {P : Program} {g : Nat} {fn : Func} {c : Code} (hf : P.funcs[g]? = some fn) (hb : fn.body = some c) (hn : (fn.name == "runtime.NumGoroutine") = false) : FnC P g :=
  ⟨fun args w => by
    have hn' : fn.name ≠ "runtime.NumGoroutine" := by simpa using hn
    simp [callFunc, Go.program, Sem.run, hf, hb, hn', Bind.bind, Sem.bind]⟩

/-! ### What stands behind a value -/
class Got (H : Hp) (ims L : List Hp) : Prop where
  g : ∀ {B : World} {X : Side} {w : World}, St B X ims L w → Agree H w
instance (ims L : List Hp) : Got noHp ims L := ⟨fun _ => agree_no _⟩
instance (H K : Hp) (ims L : List Hp) [h : Got H ims L] [k : Got K ims L] : Got (orHp H K) ims L := ⟨fun s => agree_or (h.g s) (k.g s)⟩
instance (H : Hp) (ims L : List Hp) [i : In H ims] : Got H ims L := ⟨fun s => s.im H i.mem⟩
instance (H : Hp) (ims L : List Hp) [i : In H L] : Got H ims L := ⟨fun s => (s.own H i.mem).1⟩

class AllGot (l ims L : List Hp) : Prop where
  g : ∀ {B : World} {X : Side} {w : World}, St B X ims L w → ∀ H ∈ l, Agree H w
instance (ims L : List Hp) : AllGot [] ims L := ⟨fun _ _ h => by cases h⟩
instance (H : Hp) (l ims L : List Hp) [h : Got H ims L] [t : AllGot l ims L] : AllGot (H :: l) ims L :=
  ⟨fun s K hK => by cases hK with | head => exact h.g s | tail _ h' => exact t.g s K h'⟩

instance (l : List Hp) (L : List Hp) : AllGot l l L := ⟨fun s => s.im⟩
instance (priority := low) (H : Hp) (l ims L : List Hp) [h : AllGot l ims L] : AllGot l (H :: ims) L := ⟨fun s => h.g (s.weak (i := ⟨fun _ h => .tail _ h⟩) slr9)⟩

section rets
variable {P : Program} {n : Nat} {B : World} {ims L : List Hp} {G : Env} {fn : Func} {phi : Hp → Value → Prop}
theorem kq_ret {t : Nat} {v : Value} (hr : fn.results = #[.tmp t]) (hv : look t G = some v) (H : Hp) [hg : Got H ims L] (hf : Fr B H) (hp : phi H v) :
    KQ ⟨P, n, B, noS, false, [], none⟩ ims L G (bodyPost P fn (Res B phi) .ret) := fun a w hF hS => by
  refine ⟨hF.defers, v, ?_, hS.toExt, H, hg.g hS, hf, hp⟩
  rw [results_tmp hr, (hF.get t v hv).2]
theorem kq_retP {t : Nat} {v : Value} (hr : fn.results = #[.tmp t]) (hv : look t G = some v) (hp : phi noHp v) :
    KQ ⟨P, n, B, noS, false, [], none⟩ ims L G (bodyPost P fn (Res B phi) .ret) := kq_ret hr hv noHp (fr_no B) hp
theorem kq_ret2 {t u : Nat} {v x : Value} (hr : fn.results = #[.tmp t, .tmp u]) (hv : look t G = some v) (hx : look u G = some x) (H : Hp) [hg : Got H ims L] (hf : Fr B H) (hp : phi H (.tuple #[v, x])) :
    KQ ⟨P, n, B, noS, false, [], none⟩ ims L G (bodyPost P fn (Res B phi) .ret) := fun a w hF hS => by
  refine ⟨hF.defers, .tuple #[v, x], ?_, hS.toExt, H, hg.g hS, hf, hp⟩
  rw [results_tmp2 hr, (hF.get t v hv).2, (hF.get u x hx).2]
end rets

/-! ### Changes of what is owned -/
inductive UpdR (H H' : Hp) : List Hp → List Hp → Prop
  | head (L : List Hp) : UpdR H H' (H :: L) (H' :: L)
  | tail (K : Hp) {L L' : List Hp} (h : UpdR H H' L L') : UpdR H H' (K :: L) (K :: L')
class Upd (H H' : Hp) (L : List Hp) (L' : outParam (List Hp)) : Prop where u : UpdR H H' L L'
instance (H H' : Hp) (L : List Hp) : Upd H H' (H :: L) (H' :: L) := ⟨.head L⟩
instance (priority := low) (H H' K : Hp) (L L' : List Hp) [h : Upd H H' L L'] : Upd H H' (K :: L) (K :: L') := ⟨.tail K h.u⟩
theorem UpdR.mem {H H' : Hp} : ∀ {L L' : List Hp}, UpdR H H' L L' → H ∈ L
  | _, _, .head _ => .head _
  | _, _, .tail _ h => .tail _ h.mem
theorem UpdR.mem' {H H' K : Hp} : ∀ {L L' : List Hp}, UpdR H H' L L' → K ∈ L' → K = H' ∨ K ∈ L
  | _, _, .head _, h => by
    cases h with
    | head => exact .inl rfl
    | tail _ h => exact .inr (.tail _ h)
  | _, _, .tail _ u, h => by
    cases h with
    | head => exact .inr (.head _)
    | tail _ h => exact (u.mem' h).imp id (.tail _)
/-- H may be written, and may be left for new memory. -/
theorem St.upd {B : World} {X : Side} {ims L L' : List Hp} {w w' : World} {H H' : Hp} (h : St B X ims L w) [u : Upd H H' L L']
    (hs : w.heap.size ≤ w'.heap.size) (e : ∀ b, b < w.heap.size → H b = none → w'.heap[b]? = w.heap[b]?) (hA : Agree H' w') (hd : ∀ b, H' b ≠ none → H b ≠ none ∨ w.heap.size ≤ b) (hio : Io w w') : St B X ims L' w' := by
  obtain ⟨u⟩ := u
  have hH := h.own H u.mem
  have other : ∀ K : Hp, Agree K w → Apart H K → Agree K w' ∧ Apart H' K := fun K hK hap => by
    refine ⟨fun b o hb => ?_, fun b => ?_⟩
    · have hn : H b = none := (hap b).resolve_right (by rw [hb]; simp)
      exact (e b (hK.lt hb) hn).trans (hK b o hb)
    · by_cases hk : K b = none
      · exact .inr hk
      · left
        cases hh : H' b with
        | none => rfl
        | some o =>
          rcases hd b (by rw [hh]; simp) with h1 | h1
          · exact absurd ((hap b).resolve_left h1) hk
          · cases hkb : K b with
            | none => exact absurd hkb hk
            | some o' => exact absurd h1 (Nat.not_le.2 (hK.lt hkb))
  have him : ∀ I ∈ ims, Agree I w' ∧ Apart H' I := fun I hI => other I (h.im I hI) (hH.2.2 I hI)
  have hown : ∀ {L L' : List Hp}, UpdR H H' L L' → (∀ K ∈ L, Agree K w) → L.Pairwise Apart → (∀ K ∈ L', K ≠ H' → Agree K w') ∧ L'.Pairwise Apart ∧ True := by
    intro L L' u
    induction u with
    | head L =>
      intro hK hp
      have hp' := List.pairwise_cons.1 hp
      have ho : ∀ K ∈ L, Agree K w' ∧ Apart H' K := fun K hm => other K (hK K (.tail _ hm)) (hp'.1 K hm)
      refine ⟨fun K hm hne => ?_, List.pairwise_cons.2 ⟨fun K hm => (ho K hm).2, hp'.2⟩, trivial⟩
      cases hm with
      | head => exact absurd rfl hne
      | tail _ hm => exact (ho K hm).1
    | tail K0 u' ih =>
      intro hK hp
      have hp' := List.pairwise_cons.1 hp
      obtain ⟨i1, i2, _⟩ := ih (fun K hm => hK K (.tail _ hm)) hp'.2
      have hap0 : Apart H K0 := fun b => ((hp'.1 H u'.mem) b).symm
      have o0 := other K0 (hK K0 (.head _)) hap0
      refine ⟨fun K hm hne => ?_, List.pairwise_cons.2 ⟨fun K hm => ?_, i2⟩, trivial⟩
      · cases hm with
        | head => exact o0.1
        | tail _ hm => exact i1 K hm hne
      · rcases u'.mem' hm with rfl | hm
        · exact fun b => (o0.2 b).symm
        · exact hp'.1 K hm
  obtain ⟨o1, o2, _⟩ := hown u (fun K hK => (h.own K hK).1) h.nd
  refine h.turn hs (fun b hb hn => e b hb (Classical.byContradiction fun hc => hn (.inl ⟨H, u.mem, hc⟩))) hio (fun b hb => ?_) (fun b hb hx => ?_) (fun I hI => (him I hI).1) (fun K hK => ?_) o2
  · rcases hb with ⟨K, hK, hb⟩ | hb
    · rcases u.mem' hK with rfl | hm
      · exact (hd b hb).imp (fun h1 => .inl ⟨H, u.mem, h1⟩) id
      · exact .inl (.inl ⟨K, hm, hb⟩)
    · exact .inl (.inr hb)
  · have hn : H b = none := by
      cases hh : H b with
      | none => rfl
      | some o =>
        rcases hH.2.1 b (by rw [hh]; simp) with h1 | h1
        · exact absurd hb (Nat.not_lt.2 h1)
        · exact absurd h1 hx
    exact (e b (Nat.lt_of_lt_of_le hb h.size) hn).trans (h.ext b hb hx)
  · by_cases hk : K = H'
    · subst hk
      refine ⟨hA, fun b hb => ?_, fun I hI => (him I hI).2⟩
      rcases hd b hb with h1 | h1
      · exact hH.2.1 b h1
      · exact .inl (Nat.le_trans h.size h1)
    · rcases u.mem' hK with rfl | hm
      · exact absurd rfl hk
      · exact ⟨o1 K hK hk, (h.own K hm).2⟩

theorem ext_alloc (w : World) (o : Obj) : Ext NoX w (w.alloc o) := ⟨by simp, fun b hb _ => by show (w.heap.push o)[b]? = _; simp [Array.getElem?_push, Nat.ne_of_lt hb], ⟨rfl, rfl⟩⟩
theorem agree_alloc (w : World) (o : Obj) : Agree (sing w.heap.size o) (w.alloc o) := fun b o' hb => by
  obtain ⟨rfl, rfl⟩ := sing_some hb
  show (w.heap.push o')[w.heap.size]? = _
  simp

section acts
variable {C : Cx} {dr : Bool} {ops : Array Oper} {Q : Post} {ims L : List Hp} {G : Env} {fl : List Bool} {rest : List Oper}
  {d ty : Nat} {pos : String} {af : Array Edge}

theorem kl_act {o : Oper} (hg : o.guard = none) (hfl : fl.headD false = false)
    (ha : ∀ a w, Fit C.m G a → St C.B C.X ims L w → o.wp C.P a w (fun a' w' => ∃ ims2 L2 G2, (rest = [] ∨ (dr = true → ∀ u, St C.B C.X ims2 (C.W L2) u → St C.B C.X ims (C.W L) u)) ∧
      Fit C.m G2 a' ∧ St C.B C.X ims2 L2 w' ∧ KL C dr ops Q ims2 L2 fl.tail rest G2) (fun _ _ _ => False)) : KL C dr ops Q ims L fl (o :: rest) G := fun a w hf hs => by
  unfold wpSeq
  rw [if_pos (by simp [Region.wanted, hg])]
  refine .inr ⟨fun _ => hfl, oper_wp_noPanic (Q := fun _ _ _ => False) (fun a' w' h => ?_) (ha a w hf hs)⟩
  obtain ⟨ims2, L2, G2, h1, h2, h3, h4⟩ := h
  exact ⟨St C.B C.X ims2 (C.W L2), h1.imp id (fun h => ⟨h3.w, h⟩), h4 a' w' h2 h3⟩

/-- An operation that makes a block. -/
theorem kl_new {op : Op} {o : Obj} {v : Nat → Value} (hrun : ∀ (r : Operand → Value) w, Ev G r → (execOp r ⟨some d, op, ty, pos, af, none⟩).run C.P w = .ok (.value (v w.heap.size)) (w.alloc o))
    (h : ∀ b, C.B.heap.size ≤ b → KL C dr ops Q ims (sing b o :: L) fl.tail rest ((d, v b) :: G)) (hlt : Nat.blt d C.n = true) (hfl : fl.headD false = false) :
    KL C dr ops Q ims L fl (⟨some d, op, ty, pos, af, none⟩ :: rest) G :=
  kl_act rfl hfl fun a w hf hs => by
    unfold Oper.wp
    rw [hrun a.eval w hf.toEv]
    exact ⟨ims, _, _, .inr (fun _ u hu => hu.wl (.cons _ slr9)), hf.put (by simpa [Nat.blt_eq, Cx.m] using hlt), hs.push (ext_alloc w o) (agree_alloc w o) (fresh_sing (B := w) (Nat.le_refl _)), h w.heap.size hs.size⟩
/-- The same, the block written no more. -/
theorem kl_newI {op : Op} {o : Obj} {v : Nat → Value} (hrun : ∀ (r : Operand → Value) w, Ev G r → (execOp r ⟨some d, op, ty, pos, af, none⟩).run C.P w = .ok (.value (v w.heap.size)) (w.alloc o))
    (h : ∀ b, C.B.heap.size ≤ b → KL C dr ops Q (sing b o :: ims) L fl.tail rest ((d, v b) :: G)) (hlt : Nat.blt d C.n = true) (hfl : fl.headD false = false) :
    KL C dr ops Q ims L fl (⟨some d, op, ty, pos, af, none⟩ :: rest) G :=
  kl_act rfl hfl fun a w hf hs => by
    unfold Oper.wp
    rw [hrun a.eval w hf.toEv]
    exact ⟨sing w.heap.size o :: ims, L, _, .inr (fun _ u hu => hu.weak (i := ⟨fun a ha => .tail _ ha⟩) slr9), hf.put (by simpa [Nat.blt_eq, Cx.m] using hlt),
      hs.pushIm (ext_alloc w o) (agree_alloc w o) (fresh_sing (B := w) (Nat.le_refl _)), h w.heap.size hs.size⟩

theorem box_run {P : Program} {T : Nat} {x : Operand} {v : Value} {cs : Array Value} (hc : v.cells = cs) (r : Operand → Value) (w : World) (hr : r x = v) :
    (execOp r ⟨some d, .box T x, ty, pos, af, none⟩).run P w = .ok (.value (.pointer (some ⟨w.heap.size, 0, none⟩))) (w.alloc (.cells cs T)) := by
  subst hc
  simp only [execOp, Instr.box, newVar, newRow, newObj, Sem.run_bind, Sem.run_pure, hr]
  rfl
/-- A box that is written no more. -/
theorem kl_box {T : Nat} {x : Operand} {v : Value} {cs : List Value} (hx : ev G x = some v) (hc : v.cells = cs.toArray)
    (h : ∀ p H, Fr C.B H → At H p cs → KL C dr ops Q (H :: ims) L fl.tail rest ((d, p) :: G)) (hlt : Nat.blt d C.n = true := by rfl) (hfl : fl.headD false = false := by rfl) :
    KL C dr ops Q ims L fl (⟨some d, .box T x, ty, pos, af, none⟩ :: rest) G :=
  kl_newI (v := fun b => .pointer (some ⟨b, 0, none⟩)) (fun r w hr => box_run hc r w (hr _ _ hx)) (fun b hb => h _ _ (fr_sing hb) (by simpa using At.sing (b := b) (T := T) (cs := cs.toArray) (fz := (0, 0)))) hlt hfl
/-- A box that is written. -/
theorem kl_boxL {T : Nat} {x : Operand} {v : Value} {cs : List Value} (hx : ev G x = some v) (hc : v.cells = cs.toArray)
    (h : ∀ b, C.B.heap.size ≤ b → KL C dr ops Q ims (sing b (.cells cs.toArray T) :: L) fl.tail rest ((d, .pointer (some ⟨b, 0, none⟩)) :: G)) (hlt : Nat.blt d C.n = true := by rfl) (hfl : fl.headD false = false := by rfl) :
    KL C dr ops Q ims L fl (⟨some d, .box T x, ty, pos, af, none⟩ :: rest) G :=
  kl_new (v := fun b => .pointer (some ⟨b, 0, none⟩)) (fun r w hr => box_run hc r w (hr _ _ hx)) h hlt hfl
theorem kl_alloc {T : Nat} {z : Value} {cs : List Value} [hz : ZeroC C.P T z] (hc : z.cells = cs.toArray)
    (h : ∀ b, C.B.heap.size ≤ b → KL C dr ops Q ims (sing b (.cells cs.toArray T) :: L) fl.tail rest ((d, .pointer (some ⟨b, 0, none⟩)) :: G)) (hlt : Nat.blt d C.n = true := by rfl) (hfl : fl.headD false = false := by rfl) :
    KL C dr ops Q ims L fl (⟨some d, .alloc T, ty, pos, af, none⟩ :: rest) G :=
  kl_new (v := fun b => .pointer (some ⟨b, 0, none⟩)) (fun r w hr => by
    simp only [execOp, Instr.alloc, newVar, newRow, newObj, Sem.run_bind, Sem.run_pure, zeroValue_run hz.i, Result.andThen_ok, hc]
    rfl) h hlt hfl

/-! Calls. -/
theorem kl_call {f : Operand} {xs : List Operand} {ats : Array Nat} {g : Nat} {cap : Array Value} {vs : List Value} {ims' : List Hp} {phi : Hp → Value → Prop} [hb : FnC C.P g]
    (hf : ev G f = some (.func (.func g) #[] cap)) (ha : evs G xs = some vs) (hs : Spec C.P g (vs ++ cap.toList) ims' phi) [hi : AllGot ims' ims L]
    (h : ∀ v H, Fr C.B H → phi H v → KL C dr ops Q (H :: ims) L fl.tail rest ((d, v) :: G)) (hlt : Nat.blt d C.n = true := by rfl) (hfl : fl.headD false = false := by rfl) :
    KL C dr ops Q ims L fl (⟨some d, .call ⟨.value f, xs.toArray, ats⟩, ty, pos, af, none⟩ :: rest) G :=
  kl_act rfl hfl fun a w hF hS => by
    have hrun : (execOp a.eval ⟨some d, .call ⟨.value f, xs.toArray, ats⟩, ty, pos, af, none⟩).run C.P w = .ok (.enter g (vs ++ cap.toList).toArray) w := by
      have h1 : xs.map a.eval = vs := hF.evs ha
      simp only [execOp, resolve, hF.ev hf, Deferred.ofValue, Sem.run_bind, Sem.run_pure, Result.andThen_ok, invoke, List.map_toArray, h1]
      rw [hb.run]
      simp
    unfold Oper.wp
    rw [hrun]
    refine (hs w (fun H hH => hi.g hS H hH)).mono fun e w' he => ?_
    cases e with
    | returned v =>
      obtain ⟨h1, H, h2, h3, h4⟩ := he
      exact ⟨H :: ims, L, _, .inr (fun _ u hu => hu.weak (i := ⟨fun a ha => .tail _ ha⟩) slr9), hF.put (by simpa [Nat.blt_eq, Cx.m] using hlt),
        hS.pushIm h1 h2 h3.1, h v H ⟨fun b hb => Nat.le_trans hS.size (h3.1 b hb), h3.2⟩ h4⟩
    | panicked c => exact he
    | outgrown => exact he.elim
theorem cP {f : Operand} {xs : List Operand} {ats : Array Nat} {g : Nat} {cap : Array Value} {vs : List Value} {ims' : List Hp} {v0 : Value} [hb : FnC C.P g]
    (hf : ev G f = some (.func (.func g) #[] cap)) (ha : evs G xs = some vs) (hs : SpecP C.P g (vs ++ cap.toList) ims' v0) [hi : AllGot ims' ims L]
    (h : KL C dr ops Q ims L fl.tail rest ((d, v0) :: G)) (hlt : Nat.blt d C.n = true := by rfl) (hfl : fl.headD false = false := by rfl) :
    KL C dr ops Q ims L fl (⟨some d, .call ⟨.value f, xs.toArray, ats⟩, ty, pos, af, none⟩ :: rest) G :=
  kl_act rfl hfl fun a w hF hS => by
    have hrun : (execOp a.eval ⟨some d, .call ⟨.value f, xs.toArray, ats⟩, ty, pos, af, none⟩).run C.P w = .ok (.enter g (vs ++ cap.toList).toArray) w := by
      have h1 : xs.map a.eval = vs := hF.evs ha
      simp only [execOp, resolve, hF.ev hf, Deferred.ofValue, Sem.run_bind, Sem.run_pure, Result.andThen_ok, invoke, List.map_toArray, h1]
      rw [hb.run]
      simp
    unfold Oper.wp
    rw [hrun]
    refine (hs w (fun H hH => hi.g hS H hH)).mono fun e w' he => ?_
    cases e with
    | returned v =>
      obtain ⟨h1, H, h2, h3, h4⟩ := he
      subst h4
      exact ⟨ims, L, _, .inr (fun _ u hu => hu), hF.put (by simpa [Nat.blt_eq, Cx.m] using hlt), hS.call h1, h⟩
    | panicked c => exact he
    | outgrown => exact he.elim
end acts
end
section
theorem pn {G : Env} : Pick G [] := .nil
theorem pc {G G' : Env} (k : Nat) {v : Value} (h : look k G = some v) (t : Pick G G') : Pick G ((k, v) :: G') := .cons h t
def nilCon : Con := ⟨0, [], [], 0, []⟩
theorem Sl.cells {A : Type} {H : Hp} {k : Nat} {R : List Value → A → Prop} {v : Value} {xs : List A} (h : Sl H k R v xs) : v.cells = [v].toArray := by
  obtain ⟨a, c, rfl, _⟩ := h; rfl
theorem Sl.oneCell {A : Type} {H : Hp} {k : Nat} {R : List Value → A → Prop} {v : Value} {xs : List A} (h : Sl H k R v xs) : v.oneCell' = true := by
  obtain ⟨a, c, rfl, _⟩ := h; rfl
theorem Sl.nil {A : Type} {H : Hp} {k : Nat} {R : List Value → A → Prop} : Sl H k R (.slice none 0 0) [] := ⟨none, 0, rfl, Nat.le_refl _, by simp, fun i h => absurd h (Nat.not_lt_zero i)⟩
class IsBool (P : Program) (T : Nat) : Prop where u : P.underlying T = some .bool

section codes
variable {C : Cx} {Q : Post} {ims L : List Hp} {G : Env}
/-- A loop that leaves the heaplets as they are. -/
theorem kc_loop0 {A : Type} {body : Code} (J : A → Prop) (mu : A → Nat) (Gf : A → Env) (x0 : A) {Gx : Env} (hx : Pick G Gx) (hg : Pick G (Gf x0)) (h0 : J x0)
    (round : ∀ x, J x → KC C (Exit.then (fun a w => ∃ x', mu x' < mu x ∧ J x' ∧ Fit C.m (Gf x' ++ Gx) a ∧ St C.B C.X ims L w) Q) ims L body (Gf x ++ Gx)) :
    KC C Q ims L (.loop body) G :=
  kc_loop J mu (fun _ => []) (fun _ => L) Gf x0 (ims0 := ims) hx hg rfl rfl h0 round
theorem kq_round0 {A : Type} {J : A → Prop} {mu : A → Nat} {Gf : A → Env} {x : A} {Gx : Env} {ims0 L0 : List Hp} (x' : A)
    (hlt : mu x' < mu x) (hJ : J x') (hg : Pick G (Gf x')) (hx : Pick G Gx) [hi : AllIn ims0 ims] (hs : List.Sublist L0 L) :
    KQ C ims L G (fun a w => ∃ x', mu x' < mu x ∧ J x' ∧ Fit C.m (Gf x' ++ Gx) a ∧ St C.B C.X ims0 L0 w) :=
  fun _ _ hf hs' => ⟨x', hlt, hJ, (hg.app hx).fit hf, hs'.weak hs⟩
/-- A loop whose owned heaplets are a function of its state. -/
theorem kc_loopL {A : Type} {body : Code} (J : A → Prop) (mu : A → Nat) (Lf : A → List Hp) (Gf : A → Env) (x0 : A) {Gx : Env} (hx : Pick G Gx) (hg : Pick G (Gf x0)) (hl : L = Lf x0) (h0 : J x0)
    (round : ∀ x, J x → KC C (Exit.then (fun a w => ∃ x', mu x' < mu x ∧ J x' ∧ Fit C.m (Gf x' ++ Gx) a ∧ St C.B C.X ims (Lf x') w) Q) ims (Lf x) body (Gf x ++ Gx)) :
    KC C Q ims L (.loop body) G :=
  kc_loop J mu (fun _ => []) Lf Gf x0 (ims0 := ims) hx hg rfl hl h0 round
theorem rL {A : Type} {J : A → Prop} {mu : A → Nat} {Lf : A → List Hp} {Gf : A → Env} {x : A} {Gx : Env} {ims0 L0 : List Hp} (x' : A)
    (hlt : mu x' < mu x) (hJ : J x') (hg : Pick G (Gf x')) (hx : Pick G Gx) (hl : L0 = Lf x') [hi : AllIn ims0 ims] (hs : List.Sublist L0 L) :
    KQ C ims L G (fun a w => ∃ x', mu x' < mu x ∧ J x' ∧ Fit C.m (Gf x' ++ Gx) a ∧ St C.B C.X ims0 (Lf x') w) :=
  fun _ _ hf hs' => ⟨x', hlt, hJ, (hg.app hx).fit hf, by subst hl; exact hs'.weak hs⟩
end codes

section ops
variable {C : Cx} {dr : Bool} {ops : Array Oper} {Q : Post} {ims L : List Hp} {G : Env} {fl : List Bool} {rest : List Oper}
  {d ty : Nat} {pos : String} {af : Array Edge}

theorem jn {l : List Oper} {G' : Env} (m d : Nat) (v : Value) (_hp : Pick G G')
    (h : (∀ G2, Pick G2 ((d, v) :: G') → KL C dr ops Q ims L (fl.drop m) (l.drop m) G2) → KL C dr ops Q ims L fl l G)
    (hJ : KL C dr ops Q ims L (fl.drop m) (l.drop m) ((d, v) :: G')) : KL C dr ops Q ims L fl l G :=
  h (fun _ hp2 => kl_pick hp2 hJ)
section bools
variable {c x y : Operand} {b q : Bool}
theorem aT (hc : ev G c = some (.bool b)) (hx : ev G x = some (.bool q)) (hb : b = true) (h : KL C dr ops Q ims L fl.tail rest ((d, .bool (b && q)) :: G)) (hlt : Nat.blt d C.n = true := by rfl) :
    KL C dr ops Q ims L fl (⟨some d, .pick c x y, ty, pos, af, none⟩ :: rest) G := by
  subst hb; exact kl_pickT hc rfl hx h hlt
theorem aF (q : Bool) (hc : ev G c = some (.bool b)) (hy : ev G y = some (.bool false)) (hb : b = false) (h : KL C dr ops Q ims L fl.tail rest ((d, .bool (b && q)) :: G)) (hlt : Nat.blt d C.n = true := by rfl) :
    KL C dr ops Q ims L fl (⟨some d, .pick c x y, ty, pos, af, none⟩ :: rest) G := by
  subst hb; exact kl_pickF hc rfl hy h hlt
theorem oF (hc : ev G c = some (.bool b)) (hy : ev G y = some (.bool q)) (hb : b = false) (h : KL C dr ops Q ims L fl.tail rest ((d, .bool (b || q)) :: G)) (hlt : Nat.blt d C.n = true := by rfl) :
    KL C dr ops Q ims L fl (⟨some d, .pick c x y, ty, pos, af, none⟩ :: rest) G := by
  subst hb; exact kl_pickF hc rfl hy h hlt
theorem oT (q : Bool) (hc : ev G c = some (.bool b)) (hx : ev G x = some (.bool true)) (hb : b = true) (h : KL C dr ops Q ims L fl.tail rest ((d, .bool (b || q)) :: G)) (hlt : Nat.blt d C.n = true := by rfl) :
    KL C dr ops Q ims L fl (⟨some d, .pick c x y, ty, pos, af, none⟩ :: rest) G := by
  subst hb; exact kl_pickT hc rfl hx h hlt
end bools
theorem ic9 {x y : Operand} {T T2 : Nat} {k : Nat} (hx : ev G x = some (.int .i64 (k : Int))) (hy : ev G y = some (.int .i64 1)) (hb : k < 9223372036854775807)
    (h : KL C dr ops Q ims L fl.tail rest ((d, .int .i64 ((k + 1 : Nat) : Int)) :: G)) (hlt : Nat.blt d C.n = true := by rfl) :
    KL C dr ops Q ims L fl (⟨some d, .binOp .add T x y T2, ty, pos, af, none⟩ :: rest) G := ad9 hx hy (by omega) h hlt
theorem kl_bne {x y : Operand} {T T2 : Nat} {p q : Bool} [hT : IsBool C.P T] (hx : ev G x = some (.bool p)) (hy : ev G y = some (.bool q))
    (h : KL C dr ops Q ims L fl.tail rest ((d, .bool (p != q)) :: G)) (hlt : Nat.blt d C.n = true := by rfl) :
    KL C dr ops Q ims L fl (⟨some d, .binOp .neq T x y T2, ty, pos, af, none⟩ :: rest) G :=
  kl_y (fun r w hr _ => by simp [go_sem, hr _ _ hx, hr _ _ hy, run_neq_bool w T p q hT.u]; cases p <;> cases q <;> rfl) h hlt

section index
variable {x y : Operand} {i : Nat} {T E by' : Nat} {z : Value}
theorem kl_inI {H : Hp} {v : Value} {xs : List Int} [hT : IsSlice C.P T E 1 by' z] (hx : ev G x = some v) (hy : ev G y = some (.int .i64 (i : Int))) (hv : Ints H v xs) (h1 : i < xs.length)
    (h : ∀ p, At H p [.int .i64 (xs.getD i 0)] → KL C dr ops Q ims L fl.tail rest ((d, p) :: G)) (hlt : Nat.blt d C.n = true := by rfl) :
    KL C dr ops Q ims L fl (⟨some d, .indexAddr T x y, ty, pos, af, none⟩ :: rest) G := kl_ixI hx hy hv (by omega) (by omega) h hlt
theorem kl_inS {A : Type} {H K : Hp} {k : Nat} {R : List Value → A → Prop} {v : Value} {xs : List (List A)} [hT : IsSlice C.P T E 1 by' z] (hx : ev G x = some v) (hy : ev G y = some (.int .i64 (i : Int)))
    (hv : Sl H 1 (SlC K k R) v xs) (h1 : i < xs.length)
    (h : ∀ p u, Sl K k R u (xs.getD i []) → At H p [u] → KL C dr ops Q ims L fl.tail rest ((d, p) :: G)) (hlt : Nat.blt d C.n = true := by rfl) :
    KL C dr ops Q ims L fl (⟨some d, .indexAddr T x y, ty, pos, af, none⟩ :: rest) G := kl_ixS hx hy hv (by omega) (by omega) h hlt
theorem kl_inC {H K : Hp} {v : Value} {xs : List Con} [hT : IsSlice C.P T E 5 by' z] (hx : ev G x = some v) (hy : ev G y = some (.int .i64 (i : Int))) (hv : Sl H 5 (ConV K) v xs) (h1 : i < xs.length)
    (h : ∀ p a b r, Ints K a (xs.getD i nilCon).vars → Ints K b (xs.getD i nilCon).args → Rows K r (xs.getD i nilCon).rows →
      At H p [.int .i64 (xs.getD i nilCon).kind, a, b, .int .i64 (xs.getD i nilCon).bound, r] → KL C dr ops Q ims L fl.tail rest ((d, p) :: G)) (hlt : Nat.blt d C.n = true := by rfl) :
    KL C dr ops Q ims L fl (⟨some d, .indexAddr T x y, ty, pos, af, none⟩ :: rest) G :=
  kl_ix hx hy hv (by omega) (by omega) (fun p vs hR hat => by
    obtain ⟨a, b, r, rfl, ha, hb, hr⟩ := hR nilCon
    exact h p a b r ha hb hr hat) hlt
end index

/-! Slices of slices. -/
theorem Sl.takeR {A : Type} {H : Hp} {k : Nat} {R : List Value → A → Prop} {v : Value} {xs : List A} (hv : Sl H k R v xs) {i : Nat} (hi : i ≤ xs.length) :
    ∃ u, Sl H k R u (xs.take i) ∧ ∀ (P : Program) (T E k' by' : Nat) (z : Value), IsSlice P T E k' by' z → ∀ w, (Instr.sliceAt T v none (some (.int .i64 (i : Int))) none).run P w = .ok u w := by
  obtain ⟨a, c, rfl, h1, h2, h3⟩ := hv
  have hl : (xs.take i).length = i := by simp; omega
  refine ⟨.slice a i c, ⟨a, c, by rw [hl], by omega, by omega, fun j hj => ?_⟩, fun P T E k' by' z hT w => ?_⟩
  · obtain ⟨b, o, e, vs, l, r, t⟩ := h3 j (by omega)
    exact ⟨b, o, e, vs, l, by simpa using r, t⟩
  · have hi' : i ≤ c := by omega
    by_cases hc : c = 0
    · have hi0 : i = 0 := by omega
      subst hi0 hc
      simp [Instr.sliceAt, run_underlying hT.u, Instr.slice, Instr.sliceBounds, Instr.sliceBound, asIntOf, go_sem, sizeOf_run hT.size]
    · cases a with
      | none => simp [Instr.sliceAt, run_underlying hT.u, Instr.slice, Instr.sliceBounds, Instr.sliceBound, asIntOf, go_sem, sizeOf_run hT.size, hi']
      | some a => simp [Instr.sliceAt, run_underlying hT.u, Instr.slice, Instr.sliceBounds, Instr.sliceBound, asIntOf, go_sem, sizeOf_run hT.size, hi', Addr.add]
theorem kl_slTake {A : Type} {H : Hp} {k : Nat} {R : List Value → A → Prop} {v : Value} {xs : List A} {x y : Operand} {i : Nat} {T E k' by' : Nat} {z : Value} [hT : IsSlice C.P T E k' by' z]
    (hx : ev G x = some v) (hy : ev G y = some (.int .i64 (i : Int))) (hv : Sl H k R v xs) (h1 : i ≤ xs.length)
    (h : ∀ u, Sl H k R u (xs.take i) → KL C dr ops Q ims L fl.tail rest ((d, u) :: G)) (hlt : Nat.blt d C.n = true := by rfl) :
    KL C dr ops Q ims L fl (⟨some d, .slice T x none (some y) none, ty, pos, af, none⟩ :: rest) G := by
  obtain ⟨u, hu, hrun⟩ := hv.takeR h1
  refine kl_y (fun r w hr _ => ?_) (h u hu) hlt
  simp only [execOp, Sem.run_bind, hr _ _ hx, hr _ _ hy, Option.map_some, Option.map_none, hrun C.P T E k' by' z hT, Result.andThen_ok, Sem.run_pure]
end ops
end
section
/-- v is a slice of n elements, k cells each, that H alone holds: nil, or from the head of a row on. -/
def OwnS (T k : Nat) (H : Hp) (v : Value) (n : Nat) (cs : List Value) : Prop :=
  cs.length = n * k ∧ n ≤ 140737488355328 ∧ ((∃ a, v = .slice a 0 0 ∧ n = 0 ∧ H = noHp) ∨
    ∃ b c cur, v = .slice (some ⟨b, 0, none⟩) n c ∧ n ≤ c ∧ c ≤ maxLen ∧ c * k ≤ cur.size ∧ cur.toList.take (n * k) = cs ∧ H = sing b (.cells cur T (0, 0)))
def PtrO (v p : Value) (j : Nat) : Prop := ∃ b n c, v = .slice (some ⟨b, 0, none⟩) n c ∧ p = .pointer (some ⟨b, j, none⟩)

theorem OwnS.nil {T k : Nat} : OwnS T k noHp (.slice none 0 0) 0 [] := ⟨by simp, by simp, .inl ⟨_, rfl, rfl, rfl⟩⟩
theorem OwnS.len {T k n : Nat} {H : Hp} {v : Value} {cs : List Value} (h : OwnS T k H v n cs) : n ≤ 140737488355328 := h.2.1
theorem OwnS.oneCell {T k n : Nat} {H : Hp} {v : Value} {cs : List Value} (h : OwnS T k H v n cs) : v.oneCell' = true := by
  rcases h.2.2 with ⟨_, rfl, _⟩ | ⟨b, c, cur, rfl, _⟩ <;> rfl
theorem OwnS.cells {T k n : Nat} {H : Hp} {v : Value} {cs : List Value} (h : OwnS T k H v n cs) : v.cells = [v].toArray := by
  rcases h.2.2 with ⟨_, rfl, _⟩ | ⟨b, c, cur, rfl, _⟩ <;> rfl
/-- What an owned slice reads as. -/
theorem OwnS.sl {A : Type} {T k n : Nat} {H K : Hp} {v : Value} {cs : List Value} {R : List Value → A → Prop} {xs : List A} (h : OwnS T k H v n cs) (hn : xs.length = n) (hk : ∀ b o, H b = some o → K b = some o)
    (hR : ∀ i (hi : i < xs.length), R ((cs.drop (i * k)).take k) xs[i]) : Sl K k R v xs := by
  obtain ⟨hl, hb, h⟩ := h
  rcases h with ⟨a0, rfl, rfl, rfl⟩ | ⟨b, c, cur, rfl, h1, h2, h3, h4, rfl⟩
  · exact ⟨a0, 0, by rw [hn], by omega, by omega, fun i hi => by omega⟩
  · refine ⟨some ⟨b, 0, none⟩, c, by rw [hn], by omega, by omega, fun i hi => ⟨b, 0, rfl, (cs.drop (i * k)).take k, ?_, hR i hi, b, 0 + i * k, cur, T, (0, 0), rfl, hk _ _ (by simp), fun j u hj => ?_⟩⟩
    · have : (i + 1) * k ≤ n * k := Nat.mul_le_mul_right _ (by omega)
      rw [Nat.add_mul] at this
      simp [hl]; omega
    · rw [List.getElem?_take] at hj
      split at hj
      · rw [List.getElem?_drop, ← h4, List.getElem?_take] at hj
        split at hj
        · simpa using hj
        · cases hj
      · cases hj
theorem OwnS.ints {T n : Nat} {H : Hp} {v : Value} {xs : List Int} (h : OwnS T 1 H v n (xs.map (Value.int .i64))) : Ints H v xs := by
  have hl : xs.length = n := by simpa using h.1
  refine h.sl hl (fun _ _ h => h) (fun i hi => ?_)
  simp only [Nat.mul_one, IntC]
  rw [List.drop_eq_getElem_cons (by simpa using hi)]
  simp
theorem OwnS.bools {T n : Nat} {H : Hp} {v : Value} {xs : List Bool} (h : OwnS T 1 H v n (xs.map Value.bool)) : Bools H v xs := by
  have hl : xs.length = n := by simpa using h.1
  refine h.sl hl (fun _ _ h => h) (fun i hi => ?_)
  simp only [Nat.mul_one, BoolC]
  rw [List.drop_eq_getElem_cons (by simpa using hi)]
  simp

class UpdF (H : Hp) (L : List Hp) (F : outParam (Hp → List Hp)) : Prop where u : ∀ H', UpdR H H' L (F H')
instance (H : Hp) (L : List Hp) : UpdF H (H :: L) (fun H' => H' :: L) := ⟨fun _ => .head L⟩
instance (priority := low) (H K : Hp) (L : List Hp) (F : Hp → List Hp) [h : UpdF H L F] : UpdF H (K :: L) (fun H' => K :: F H') := ⟨fun H' => .tail K (h.u H')⟩
/-- The box b in L, its cells; F: L with other cells in it. -/
class BoxF (b : Nat) (cs : outParam (List Value)) (T : outParam Nat) (L : List Hp) (F : outParam (List Value → List Hp)) : Prop where
  u : ∀ cs', UpdR (sing b (.cells cs.toArray T (0, 0))) (sing b (.cells (List.toArray cs') T (0, 0))) L (F cs')
instance (b : Nat) (cs : List Value) (T : Nat) (L : List Hp) : BoxF b cs T (sing b (.cells cs.toArray T (0, 0)) :: L) (fun cs' => sing b (.cells (List.toArray cs') T (0, 0)) :: L) := ⟨fun _ => .head L⟩
instance (priority := low) (b : Nat) (cs : List Value) (T : Nat) (K : Hp) (L : List Hp) (F : List Value → List Hp) [h : BoxF b cs T L F] : BoxF b cs T (K :: L) (fun cs' => K :: F cs') := ⟨fun cs' => .tail K (h.u cs')⟩
inductive RemR (H : Hp) : List Hp → List Hp → Prop
  | head (L : List Hp) : RemR H (H :: L) L
  | tail (K : Hp) {L L' : List Hp} (h : RemR H L L') : RemR H (K :: L) (K :: L')
/-- L without H. -/
class RemH (H : Hp) (L : List Hp) (L' : outParam (List Hp)) : Prop where r : RemR H L L'
instance (H : Hp) (L : List Hp) : RemH H (H :: L) L := ⟨.head L⟩
instance (priority := low) (H K : Hp) (L L' : List Hp) [h : RemH H L L'] : RemH H (K :: L) (K :: L') := ⟨.tail K h.r⟩
theorem RemR.facts {H : Hp} {L L' : List Hp} (r : RemR H L L') : H ∈ L ∧ (∀ K ∈ L', K ∈ L) ∧ (L.Pairwise Apart → L'.Pairwise Apart ∧ ∀ K ∈ L', Apart K H) := by
  induction r with
  | head L => exact ⟨.head _, fun K h => .tail _ h, fun hp => ⟨(List.pairwise_cons.1 hp).2, fun K hK b => ((List.pairwise_cons.1 hp).1 K hK b).symm⟩⟩
  | tail K r ih =>
    obtain ⟨h1, h2, h3⟩ := ih
    refine ⟨.tail _ h1, fun J hJ => ?_, fun hp => ?_⟩
    · cases hJ with
      | head => exact .head _
      | tail _ hJ => exact .tail _ (h2 J hJ)
    · obtain ⟨h4, h5⟩ := h3 (List.pairwise_cons.1 hp).2
      refine ⟨List.pairwise_cons.2 ⟨fun J hJ => (List.pairwise_cons.1 hp).1 J (h2 J hJ), h4⟩, fun J hJ => ?_⟩
      cases hJ with
      | head => exact (List.pairwise_cons.1 hp).1 H h1
      | tail _ hJ => exact h5 J hJ
theorem St.rem {B : World} {X : Side} {ims L L' : List Hp} {H : Hp} {w : World} (h : St B X ims L w) [r : RemH H L L'] : St B X (H :: ims) L' w := by
  obtain ⟨h1, h2, h3⟩ := r.r.facts
  obtain ⟨h4, h5⟩ := h3 h.nd
  refine h.still (fun b hb => ?_) (fun K hK => ?_) (fun K hK => ⟨(h.own K (h2 K hK)).1, (h.own K (h2 K hK)).2.1, fun I hI => ?_⟩) h4
  · rcases hb with ⟨K, hK, hb⟩ | ⟨hB, K, hK, hb⟩
    · exact .inl ⟨K, h2 K hK, hb⟩
    · cases hK with
      | head => exact .inl ⟨H, h1, hb⟩
      | tail _ hK => exact .inr ⟨hB, K, hK, hb⟩
  · cases hK with
    | head => exact (h.own H h1).1
    | tail _ hK => exact h.im K hK
  · cases hI with
    | head => exact h5 K hK
    | tail _ hI => exact (h.own K (h2 K hK)).2.2 I hI

section codes
variable {C : Cx} {Q : Post} {ims L L' : List Hp} {G : Env}
theorem kc_frz (H : Hp) {c : Code} [r : RemH H L L'] (h : KC C Q (H :: ims) L' c G) : KC C Q ims L c G := fun a w hf hs => h a w hf hs.rem
theorem kc_no {c : Code} (h : KC C Q ims (noHp :: L) c G) : KC C Q ims L c G := fun a w hf hs =>
  h a w hf (hs.push (Ext.refl _ _) (agree_no w) (fun _ hb => absurd rfl hb))
end codes

section ops
variable {C : Cx} {dr : Bool} {ops : Array Oper} {Q : Post} {ims L : List Hp} {G : Env} {fl : List Bool} {rest : List Oper}
  {d ty : Nat} {pos : String} {af : Array Edge}

theorem kl_no (h : KL C false ops Q ims (noHp :: L) fl rest G) : KL C false ops Q ims L fl rest G := by
  intro a w hf hs
  have h1 := h a w hf (hs.push (Ext.refl _ _) (agree_no w) (fun b hb => absurd rfl hb))
  refine wpSeq_false ?_ _ _ _ _ h1
  intro u hu
  unfold Cx.W at *
  cases e : C.lo <;> rw [e] at hu
  · exact St.push (L := L) hu (Ext.refl _ _) (agree_no u) (fun b hb => absurd rfl hb)
  · exact hu

/-! Making. -/
theorem make_run {P : Program} {T E k by' : Nat} {z : Value} (hT : IsSlice P T E k by' z) {n c : Int} (h0 : 0 ≤ n) (h1 : n ≤ c) (h2 : (by' : Int) * c ≤ 281474976710656) (h3 : c ≤ 9223372036854775807) (w : World) :
    (Instr.makeSlice T (.int .i64 n) (.int .i64 c)).run P w = .ok (.slice (some ⟨w.heap.size, 0, none⟩) n.toNat c.toNat) (w.alloc (.cells (madeCells z.cells (c.toNat * k)) E)) := by
  obtain ⟨i, hi, hz, hk, hb⟩ := hT.info
  have := run_make (P := P) w T E i z hT.u hi hz .i64 .i64 n c h0 h1 (by rw [hb]; exact h2) h3
  rw [hk] at this
  exact this
theorem kl_make {x y : Operand} {T E k by' : Nat} {z : Value} [hT : IsSlice C.P T E k by' z] {n c : Int} (hx : ev G x = some (.int .i64 n)) (hy : ev G y = some (.int .i64 c)) (h0 : 0 ≤ n) (h1 : n ≤ c) (h2 : c ≤ 1073741824) (hb : by' ≤ 1024)
    (h : ∀ v H, Fr C.B H → OwnS E k H v n.toNat ((madeCells z.cells (c.toNat * k)).toList.take (n.toNat * k)) → KL C dr ops Q ims (H :: L) fl.tail rest ((d, v) :: G)) (hlt : Nat.blt d C.n = true := by rfl) (hfl : fl.headD false = false := by rfl) :
    KL C dr ops Q ims L fl (⟨some d, .makeSlice T x y, ty, pos, af, none⟩ :: rest) G :=
  kl_new (v := fun b => .slice (some ⟨b, 0, none⟩) n.toNat c.toNat) (o := .cells (madeCells z.cells (c.toNat * k)) E) (fun r w hr => by
    have h3 : (by' : Int) * c ≤ 281474976710656 := by
      have : (by' : Int) * c ≤ 1024 * 1073741824 := Int.mul_le_mul (by omega) h2 (by omega) (by omega)
      omega
    have := make_run hT h0 h1 h3 (by omega) w
    simp only [execOp, Sem.run_bind, hr _ _ hx, hr _ _ hy, this, Result.andThen_ok, Sem.run_pure]) (fun b hb' => by
    have hcn : c.toNat ≤ 1073741824 := by omega
    refine h _ _ (fr_sing hb') ⟨?_, by omega, .inr ⟨b, c.toNat, _, rfl, by omega, by simp only [maxLen]; omega, Nat.le_of_eq (size_madeCells _ _).symm, rfl, rfl⟩⟩
    have : n.toNat * k ≤ c.toNat * k := Nat.mul_le_mul_right _ (by omega)
    rw [List.length_take]
    simp only [Array.length_toList, size_madeCells]
    exact Nat.min_eq_left this) hlt hfl
/-- make([]T, 0, c). -/
theorem kl_mk0 {x y : Operand} {T E k by' : Nat} {z : Value} [hT : IsSlice C.P T E k by' z] {c : Int} (hx : ev G x = some (.int .i64 0)) (hy : ev G y = some (.int .i64 c)) (h1 : 0 ≤ c) (h2 : c ≤ 1073741824) (hb : by' ≤ 1024)
    (h : ∀ v H, Fr C.B H → OwnS E k H v 0 [] → KL C dr ops Q ims (H :: L) fl.tail rest ((d, v) :: G)) (hlt : Nat.blt d C.n = true := by rfl) (hfl : fl.headD false = false := by rfl) :
    KL C dr ops Q ims L fl (⟨some d, .makeSlice T x y, ty, pos, af, none⟩ :: rest) G :=
  kl_make hx hy (Int.le_refl _) h1 h2 hb (fun v H f ho => h v H f (by simpa using ho)) hlt hfl

/-! Reading and writing what is owned. -/
theorem kl_lenO {E k n : Nat} {H : Hp} {v : Value} {cs : List Value} {x : Operand} {T E' k' by' : Nat} {z : Value} [hT : IsSlice C.P T E' k' by' z]
    (hx : ev G x = some v) (hv : OwnS E k H v n cs) (h : n ≤ 140737488355328 → KL C dr ops Q ims L fl.tail rest ((d, .int .i64 n) :: G)) (hlt : Nat.blt d C.n = true := by rfl) :
    KL C dr ops Q ims L fl (⟨some d, .call ⟨.builtin .len, #[x], #[T]⟩, ty, pos, af, none⟩ :: rest) G :=
  kl_y (fun r w hr _ => by
    rcases hv.2.2 with ⟨a0, rfl, rfl, _⟩ | ⟨b, c, cur, rfl, _⟩ <;> simp [go_sem, hr _ _ hx, Builtin.len_, run_underlying hT.u, goInt]) (h hv.len) hlt
theorem kl_ixO {E k n : Nat} {H : Hp} {v : Value} {cs : List Value} {x y : Operand} {i : Int} {T E' by' : Nat} {z : Value} [hT : IsSlice C.P T E' k by' z]
    (hx : ev G x = some v) (hy : ev G y = some (.int .i64 i)) (hv : OwnS E k H v n cs) (h0 : 0 ≤ i) (h1 : i < n)
    (h : ∀ p, PtrO v p (i.toNat * k) → KL C dr ops Q ims L fl.tail rest ((d, p) :: G)) (hlt : Nat.blt d C.n = true := by rfl) :
    KL C dr ops Q ims L fl (⟨some d, .indexAddr T x y, ty, pos, af, none⟩ :: rest) G := by
  rcases hv.2.2 with ⟨a0, rfl, rfl, _⟩ | ⟨b, c, cur, rfl, _⟩
  · omega
  · refine kl_y (v := .pointer (some ⟨b, i.toNat * k, none⟩)) (fun r w hr _ => ?_) (h _ ⟨b, n, c, rfl, rfl⟩) hlt
    simp [go_sem, hr _ _ hx, hr _ _ hy, Instr.indexAt, run_underlying hT.u, sizeOf_run hT.size, Addr.add_lit, h0, h1]
theorem OwnS.cell {E k n j : Nat} {H : Hp} {v p u : Value} {cs : List Value} (hv : OwnS E k H v n cs) (hp : PtrO v p j) (hc : cs[j]? = some u) :
    ∃ b cur, p = .pointer (some ⟨b, j, none⟩) ∧ H = sing b (.cells cur E (0, 0)) ∧ cur[j]? = some u := by
  obtain ⟨b, n', c', rfl, rfl⟩ := hp
  rcases hv.2.2 with ⟨_, _, hn, _⟩ | ⟨b', c, cur, h, h1, h2, h3, h4, rfl⟩
  · have h5 := (List.getElem?_eq_some_iff.1 hc).1
    have h6 := hv.1
    rw [hn, Nat.zero_mul] at h6
    omega
  · simp at h
    obtain ⟨rfl, rfl, rfl⟩ := h
    refine ⟨b, cur, rfl, rfl, ?_⟩
    rw [← h4, List.getElem?_take] at hc
    split at hc
    · simpa using hc
    · cases hc
theorem kl_ldO {E k n j : Nat} {H : Hp} {v p u : Value} {cs : List Value} {x : Operand} {T : Nat} [hT : OneC C.P T] (hx : ev G x = some p) (hp : PtrO v p j) (hv : OwnS E k H v n cs) [hi : In H L] (hc : cs[j]? = some u)
    (h : KL C dr ops Q ims L fl.tail rest ((d, u) :: G)) (hlt : Nat.blt d C.n = true := by rfl) (hlo : C.lo = false := by rfl) : KL C dr ops Q ims L fl (⟨some d, .load T x, ty, pos, af, none⟩ :: rest) G :=
  kl_y (fun r w hr hs => by
    rw [Cx.whi hlo] at hs
    obtain ⟨b, cur, rfl, rfl, hcur⟩ := hv.cell hp hc
    have hA := hs.agL (H := sing b (.cells cur E (0, 0))) b _ (sing_self _ _)
    have hcell : w.cell? ⟨b, j, none⟩ = some u := by simp [World.cell?, hA, hcur]
    simp [go_sem, hr _ _ hx, Instr.loadAt, loadVar, OneC.run, hcell]) h hlt

/-- A store of some cells into a block that is owned. -/
theorem store_run {P : Program} {T : Nat} {u : Value} {us : List Value} (hu : u.cells = us.toArray) (hs : (P.info? T).map (·.size) = some us.length) (h1 : ∀ x ∈ us, x.oneCell' = true)
    {w : World} {b j E : Nat} {cur : List Value} (hb : w.heap[b]? = some (.cells cur.toArray E (0, 0))) (hj : j + us.length ≤ cur.length) :
    (Instr.storeAt T (.pointer (some ⟨b, j, none⟩)) u).run P w = .ok () (w.setRow b (cur.take j ++ us ++ cur.drop (j + us.length)).toArray) := by
  have := run_storeCells_at P b j E us 0 cur.toArray w hb (by simpa using hj) h1
  simp only [Nat.add_zero] at this
  simp only [Instr.storeAt, Instr.sureAddr, storeVar, Sem.run_bind, Sem.run_pure, Result.andThen_ok, sizeOf_run hs, hu]
  simp only [List.size_toArray, ne_eq, not_true_eq_false, if_false]
  simpa using this
theorem setRow_get (w : World) (b : Nat) (cur : List Value) (E : Nat) (cs : Array Value) (hb : w.heap[b]? = some (.cells cur.toArray E (0, 0))) : (w.setRow b cs).heap[b]? = some (.cells cs E (0, 0)) :=
  setRow_heap w b cur.toArray cs E _ hb

theorem kl_st {x y : Operand} {T b j E : Nat} {u : Value} {us cur : List Value} {L' : List Hp}
    (hx : ev G x = some (.pointer (some ⟨b, j, none⟩))) (hy : ev G y = some u) (hu : u.cells = us.toArray) (hs : (C.P.info? T).map (·.size) = some us.length) (h1 : ∀ x ∈ us, x.oneCell' = true)
    (hup : UpdR (sing b (.cells cur.toArray E (0, 0))) (sing b (.cells (cur.take j ++ us ++ cur.drop (j + us.length)).toArray E (0, 0))) L L') (hj : j + us.length ≤ cur.length)
    (h : KL C dr ops Q ims L' fl.tail rest G) (hfl : fl.headD false = false) (hdr : (!dr || rest.isEmpty) = true) :
    KL C dr ops Q ims L fl (⟨none, .store T x y, ty, pos, af, none⟩ :: rest) G :=
  kl_act rfl hfl fun a w hf hs' => by
    have hown := hs'.own _ hup.mem
    have hb := hown.1 b _ (sing_self _ _)
    have hrun : (execOp a.eval ⟨none, .store T x y, ty, pos, af, none⟩).run C.P w = .ok .skip (w.setRow b (cur.take j ++ us ++ cur.drop (j + us.length)).toArray) := by
      simp only [execOp, Sem.run_bind, hf.ev hx, hf.ev hy, store_run hu hs h1 hb hj, Result.andThen_ok, Sem.run_pure]
    unfold Oper.wp
    rw [hrun]
    refine ⟨ims, L', G, ?_, hf.putNone, ?_, h⟩
    · cases dr with
      | true => left; simpa using hdr
      | false => right; intro e; cases e
    · refine hs'.upd (u := ⟨hup⟩) (by simp) (fun b' _ hn => ?_) (fun b' o' hb' => ?_) (fun b' hb' => .inl ?_) ⟨rfl, rfl⟩
      · have hne : b' ≠ b := fun e => by subst e; simp at hn
        exact setRow_other w b b' _ hne
      · obtain ⟨rfl, rfl⟩ := sing_some hb'
        exact setRow_get w _ cur E _ hb
      · by_cases e : b' = b
        · subst e; simp
        · simp [sing, e] at hb'

/-- A store of one cell into a slice that is owned. -/
theorem kl_stO {x y : Operand} {T j E k n : Nat} {H : Hp} {v p u : Value} {cs : List Value} {F : Hp → List Hp} [hT : OneC C.P T] [hF : UpdF H L F]
    (hx : ev G x = some p) (hy : ev G y = some u) (hp : PtrO v p j) (hv : OwnS E k H v n cs) (hj : j < cs.length) (h1 : u.oneCell' = true) (hu : u.cells = [u].toArray)
    (h : ∀ H', OwnS E k H' v n (cs.set j u) → (∀ B, Fr B H → Fr B H') → KL C dr ops Q ims (F H') fl.tail rest G) (hfl : fl.headD false = false := by rfl) (hdr : (!dr || rest.isEmpty) = true := by rfl) :
    KL C dr ops Q ims L fl (⟨none, .store T x y, ty, pos, af, none⟩ :: rest) G := by
  obtain ⟨b, n', c', rfl, rfl⟩ := hp
  rcases hv.2.2 with ⟨_, _, hn, _⟩ | ⟨b', c, cur, h0, h2, h3, h4, h5, rfl⟩
  · have h6 := hv.1
    rw [hn, Nat.zero_mul] at h6
    omega
  · simp at h0
    obtain ⟨rfl, rfl, rfl⟩ := h0
    have hlen : n' * k ≤ cur.size := Nat.le_trans (Nat.mul_le_mul_right _ h2) h4
    have hjc : j < cur.size := Nat.lt_of_lt_of_le hj (by rw [hv.1]; exact hlen)
    have hcur : cur = cur.toList.toArray := by simp
    have hset : (cur.toList.take j ++ [u] ++ cur.toList.drop (j + [u].length)) = cur.toList.set j u := by
      rw [List.set_eq_take_append_cons_drop, if_pos (by simpa using hjc)]
      simp
    refine kl_st (E := E) (us := [u]) (cur := cur.toList) (L' := F (sing b (.cells (cur.toList.set j u).toArray E (0, 0)))) hx hy hu (by simpa using hT.i) (by simpa using h1) ?_ (by simp; omega) (h _ ⟨by simp [hv.1], hv.2.1, .inr ⟨b, c', _, rfl, h2, h3, by simp [h4], ?_, rfl⟩⟩ ?_) hfl hdr
    · rw [hset, ← hcur]; exact hF.u _
    · simp only []
      rw [List.take_set, h5]
    · intro B hB
      refine ⟨fun b' hb' => ?_, liq_sing⟩
      refine hB.1 b' ?_
      by_cases e : b' = b
      · subst e; simp
      · simp [sing, e] at hb'
/-- A store of one cell into a box. -/
theorem sB {x y : Operand} {T b j E : Nat} {u : Value} {cs : List Value} {F : List Value → List Hp} [hT : OneC C.P T] [hF : BoxF b cs E L F]
    (hx : ev G x = some (.pointer (some ⟨b, j, none⟩))) (hy : ev G y = some u) (hj : Nat.blt j cs.length = true) (h1 : u.oneCell' = true) (hu : u.cells = [u].toArray)
    (h : KL C dr ops Q ims (F (cs.set j u)) fl.tail rest G) (hfl : fl.headD false = false := by rfl) (hdr : (!dr || rest.isEmpty) = true := by rfl) :
    KL C dr ops Q ims L fl (⟨none, .store T x y, ty, pos, af, none⟩ :: rest) G := by
  have hj : j < cs.length := by simpa [Nat.blt_eq] using hj
  have hset : (cs.take j ++ [u] ++ cs.drop (j + [u].length)) = cs.set j u := by
    rw [List.set_eq_take_append_cons_drop, if_pos hj]
    simp
  exact kl_st (us := [u]) (cur := cs) hx hy hu (by simpa using hT.i) (by simpa using h1) (by rw [hset]; exact hF.u _) (by simp; omega) h hfl hdr
/-- A store of a whole box. -/
theorem kl_stW {x y : Operand} {T b E k : Nat} {u : Value} {cs us : List Value} {F : List Value → List Hp} [hT : AggC C.P T k] [hF : BoxF b cs E L F]
    (hx : ev G x = some (.pointer (some ⟨b, 0, none⟩))) (hy : ev G y = some u) (hk : Nat.beq us.length k = true) (hl : Nat.beq cs.length k = true) (h1 : ∀ x ∈ us, x.oneCell' = true) (hu : u.cells = us.toArray)
    (h : KL C dr ops Q ims (F us) fl.tail rest G) (hfl : fl.headD false = false := by rfl) (hdr : (!dr || rest.isEmpty) = true := by rfl) :
    KL C dr ops Q ims L fl (⟨none, .store T x y, ty, pos, af, none⟩ :: rest) G := by
  have hk := Nat.eq_of_beq_eq_true hk
  have hl := Nat.eq_of_beq_eq_true hl
  exact kl_st (us := us) (cur := cs) hx hy hu (by rw [hk]; exact hT.i) h1 (by
    have : cs.take 0 ++ us ++ cs.drop (0 + us.length) = us := by simp [hk, ← hl]
    rw [this]; exact hF.u _) (by omega) h hfl hdr
/-- A store of an element of some cells into a slice that is owned. -/
theorem kl_stE {x y : Operand} {T j E k n : Nat} {H : Hp} {v p u : Value} {cs us : List Value} {F : Hp → List Hp} [hT : AggC C.P T k] [hF : UpdF H L F]
    (hx : ev G x = some p) (hy : ev G y = some u) (hp : PtrO v p j) (hv : OwnS E k H v n cs) (hj : j + k ≤ cs.length) (hk : Nat.beq us.length k = true) (h1 : ∀ x ∈ us, x.oneCell' = true) (hu : u.cells = us.toArray)
    (h : ∀ H', OwnS E k H' v n (cs.take j ++ us ++ cs.drop (j + k)) → (∀ B, Fr B H → Fr B H') → KL C dr ops Q ims (F H') fl.tail rest G) (hfl : fl.headD false = false := by rfl) (hdr : (!dr || rest.isEmpty) = true := by rfl) :
    KL C dr ops Q ims L fl (⟨none, .store T x y, ty, pos, af, none⟩ :: rest) G := by
  have hk := Nat.eq_of_beq_eq_true hk
  obtain ⟨b, n', c', rfl, rfl⟩ := hp
  rcases hv.2.2 with ⟨_, _, hn, _⟩ | ⟨b', c, cur, h0, h2, h3, h4, h5, rfl⟩
  · have h6 := hv.1
    have h7 : 0 < k := hT.pos
    rw [hn, Nat.zero_mul] at h6
    omega
  · simp at h0
    obtain ⟨rfl, rfl, rfl⟩ := h0
    have hlen : n' * k ≤ cur.size := Nat.le_trans (Nat.mul_le_mul_right _ h2) h4
    have hcs := hv.1
    have hjc : j + k ≤ cur.size := by omega
    have hcur : cur = cur.toList.toArray := by simp
    refine kl_st (E := E) (us := us) (cur := cur.toList) (L' := F (sing b (.cells (cur.toList.take j ++ us ++ cur.toList.drop (j + us.length)).toArray E (0, 0)))) hx hy hu (by rw [hk]; exact hT.i) h1 ?_ (by rw [hk]; simpa using hjc)
      (h _ ⟨by simp [hcs, hk]; omega, hv.2.1, .inr ⟨b, c', _, rfl, h2, h3, by simp [h4, hk]; omega, ?_, rfl⟩⟩ ?_) hfl hdr
    · rw [← hcur]; exact hF.u _
    · simp only []
      subst h5
      have hsz : cur.toList.length = cur.size := by simp
      generalize cur.toList = A at *
      apply List.ext_getElem?
      intro i
      simp only [List.getElem?_take, List.getElem?_append, List.length_append, List.length_take, List.getElem?_drop, hk]
      have e1 : min j A.length = j := by omega
      have e2 : min (n' * k) A.length = n' * k := by omega
      have e3 : min j (n' * k) = j := by omega
      simp only [e1, e2, e3]
      split
      · rename_i hi
        split
        · rename_i hi2
          split
          · first | rfl | simp [hi]
          · first | rfl | omega
        · have hi5 : j + k + (i - (j + k)) = i := by omega
          rw [hi5, if_pos hi]
      · rename_i hi
        rw [if_neg (by omega), if_neg (by omega)]
    · intro B hB
      refine ⟨fun b' hb' => ?_, liq_sing⟩
      refine hB.1 b' ?_
      by_cases e : b' = b
      · subst e; simp
      · simp [sing, e] at hb'
theorem lB {x : Operand} {T b j E : Nat} {u : Value} {cs : List Value} {F : List Value → List Hp} [hT : OneC C.P T] [hF : BoxF b cs E L F] (hx : ev G x = some (.pointer (some ⟨b, j, none⟩))) (hc : cs[j]? = some u)
    (h : KL C dr ops Q ims L fl.tail rest ((d, u) :: G)) (hlt : Nat.blt d C.n = true := by rfl) (hlo : C.lo = false := by rfl) : KL C dr ops Q ims L fl (⟨some d, .load T x, ty, pos, af, none⟩ :: rest) G :=
  kl_y (fun r w hr hs => by
    rw [Cx.whi hlo] at hs
    have hA := (hs.own _ (hF.u cs).mem).1 b _ (sing_self _ _)
    have hcell : w.cell? ⟨b, j, none⟩ = some u := by simp [World.cell?, hA, hc]
    simp [go_sem, hr _ _ hx, Instr.loadAt, loadVar, OneC.run, hcell]) h hlt
theorem kl_ldW {x : Operand} {T b E k : Nat} {cs : List Value} {F : List Value → List Hp} [hT : AggC C.P T k] [hF : BoxF b cs E L F] (hx : ev G x = some (.pointer (some ⟨b, 0, none⟩))) (hk : Nat.beq cs.length k = true)
    (h : KL C dr ops Q ims L fl.tail rest ((d, .agg cs.toArray) :: G)) (hlt : Nat.blt d C.n = true := by rfl) (hlo : C.lo = false := by rfl) : KL C dr ops Q ims L fl (⟨some d, .load T x, ty, pos, af, none⟩ :: rest) G :=
  kl_y (fun r w hr hs => by
    rw [Cx.whi hlo] at hs
    have hA := (hs.own _ (hF.u cs).mem).1
    have hat : At (sing b (.cells cs.toArray E (0, 0))) (.pointer (some ⟨b, 0, none⟩)) cs := At.sing (cs := cs.toArray)
    have hc := loadCells_at (P := C.P) hA hat
    rw [Nat.eq_of_beq_eq_true hk] at hc
    have h1 : (Instr.loadAt T (.pointer (some ⟨b, 0, none⟩))).run C.P w = .ok (.agg cs.toArray) w := by
      simp only [Instr.loadAt, Instr.sureAddr, loadVar, Sem.run_bind, Sem.run_pure, Result.andThen_ok, AggC.run, sizeOf_run hT.i, hc, if_true]
    simp only [execOp, Sem.run_bind, hr _ _ hx, h1, Result.andThen_ok, Sem.run_pure]) h hlt
end ops
end
section
/-- x reads as m elements, k cells each, the cells news. -/
def Rd (H : Hp) (k : Nat) (x : Value) (m : Nat) (news : List Value) : Prop :=
  ∃ a c, x = .slice a m c ∧ news.length = m * k ∧ ∀ j u, news[j]? = some u → ∃ b o cs T fz, a = some ⟨b, o, none⟩ ∧ H b = some (.cells cs T fz) ∧ cs[o + j]? = some u

def evp (G : Env) : List (Nat × Operand) → Option (List (Nat × Value))
  | [] => some []
  | (i, x) :: r => match ev G x, evp G r with
    | some v, some vs => some ((i, v) :: vs)
    | _, _ => none
theorem evp_run {G : Env} {r : Operand → Value} (hr : Ev G r) : ∀ {ps : List (Nat × Operand)} {vs : List (Nat × Value)}, evp G ps = some vs → ps.map (fun p => (p.1, r p.2)) = vs
  | [], vs, h => by simp [evp] at h; simp [h]
  | (i, x) :: t, vs, h => by
    simp only [evp] at h
    split at h
    · rename_i v ws h1 h2
      simp at h; subst h
      simp [hr _ _ h1, evp_run hr h2]
    · cases h

def enumV : Nat → List Value → List (Nat × Value)
  | _, [] => []
  | i, u :: r => (i, u) :: enumV (i + 1) r
theorem fill_one : ∀ (us : List Value) (i : Nat) (cells : Array Value), (∀ u ∈ us, u.cells = #[u]) → i + us.length ≤ cells.size →
    Instr.fill (fun i => some (i * 1, 1)) cells (enumV i us) = some (cells.toList.take i ++ us ++ cells.toList.drop (i + us.length)).toArray
  | [], i, cells, _, _ => by simp [enumV, Instr.fill]
  | u :: r, i, cells, h, hl => by
    have hu := h u (.head _)
    simp only [List.length_cons] at hl
    have ih := fill_one r (i + 1) (cells.setIfInBounds i u) (fun x hx => h x (.tail _ hx)) (by simp; omega)
    have hz : (#[u] : Array Value).zipIdx = #[(u, 0)] := by simp
    simp only [enumV, Instr.fill, hu, Nat.mul_one]
    rw [if_neg (by simp; omega), hz]
    simp only [Nat.mul_one] at ih
    simp only [List.foldl_toArray', List.foldl_cons, List.foldl_nil, Nat.add_zero, List.size_toArray, List.length_cons, List.length_nil]
    rw [ih]
    simp only [Array.toList_setIfInBounds, Option.some.injEq]
    congr 1
    apply List.ext_getElem?
    intro j
    simp only [List.getElem?_append, List.getElem?_take, List.getElem?_drop, List.length_append, List.length_take, List.length_set, List.length_cons, List.getElem?_set, List.getElem?_cons]
    have hc : cells.toList.length = cells.size := by simp
    have e1 : min (i + 1) cells.toList.length = i + 1 := by omega
    have e2 : min i cells.toList.length = i := by omega
    simp only [e1, e2]
    by_cases h1 : j < i
    · rw [if_pos (by omega), if_pos (by omega), if_pos (by omega), if_neg (by omega), if_pos (by omega), if_pos h1, if_pos h1]
    · by_cases h2 : j = i
      · subst h2
        rw [if_pos (by omega), if_pos (by omega), if_pos (by omega), if_pos rfl, if_pos (by omega), if_pos (by omega), if_neg (by omega), if_pos (by omega)]
      · by_cases h3 : j < i + 1 + r.length
        · rw [if_pos (by omega), if_neg (by omega), if_pos (by omega), if_neg (by omega), if_neg (by omega)]
          first | rfl | (congr 1; omega)
        · rw [if_neg (by omega), if_neg (by omega), if_neg (by omega)]
          first | rfl | (congr 1; omega)

section ops
variable {C : Cx} {dr : Bool} {ops : Array Oper} {Q : Post} {ims L : List Hp} {G : Env} {fl : List Bool} {rest : List Oper}
  {d ty : Nat} {pos : String} {af : Array Edge}

/-- A slice that is written out, one cell an element: fixed memory. -/
theorem bs9 {T E by' n : Nat} {z : Value} [hT : IsSlice C.P T E 1 by' z] {ps : List (Nat × Operand)} {pv : List (Nat × Value)} {us : List Value}
    (hp : evp G ps = some pv) (he : pv = enumV 0 us) (hn : Nat.beq us.length n = true) (hm : n ≤ 1000) (hu : ∀ u ∈ us, u.cells = #[u])
    (h : ∀ v H, Fr C.B H → Rd H 1 v n us → Sl H 1 (fun cs u => cs = [u]) v us → KL C dr ops Q (H :: ims) L fl.tail rest ((d, v) :: G)) (hlt : Nat.blt d C.n = true := by rfl) (hfl : fl.headD false = false := by rfl) :
    KL C dr ops Q ims L fl (⟨some d, .buildSlice T n ps.toArray, ty, pos, af, none⟩ :: rest) G := by
  have hn := Nat.eq_of_beq_eq_true hn
  subst hn he
  refine kl_newI (v := fun b => .slice (some ⟨b, 0, none⟩) us.length us.length) (o := .cells us.toArray E) (fun r w hr => ?_) (fun b hb => h _ _ (fr_sing hb) ?_ ?_) hlt hfl
  · have hps := evp_run hr hp
    have hz := hT.z
    have hzv : (zeroValue E).run C.P w = .ok z w := zeroValue_run (by obtain ⟨i, hi, hz', _⟩ := hT.info; simp [hi, hz']) w
    have key : (Instr.buildSlice T us.length (enumV 0 us).toArray).run C.P w = .ok (.slice (some ⟨w.heap.size, 0, none⟩) us.length us.length) (w.alloc (.cells us.toArray E)) := by
      by_cases h0 : us.length = 0
      · have : us = [] := List.eq_nil_of_length_eq_zero h0
        subst this
        simp [Instr.buildSlice, run_underlying hT.u, sizeOf_run hT.size, enumV, Instr.fill, newRow, Array.range]
      · have hnn : us.length * 1 ≠ 0 := by omega
        have hff := fill_one us 0 ((Array.range (us.length * 1)).map (z.cells[· % z.cells.size]!)) hu (by simp)
        simp only [List.take_zero, List.nil_append, Nat.zero_add] at hff
        have hdrop : ((Array.range (us.length * 1)).map (z.cells[· % z.cells.size]!)).toList.drop us.length = [] := by simp
        rw [hdrop, List.append_nil] at hff
        have h24 : ¬ (16777216 < us.length) := by omega
        simp only [Instr.buildSlice, Sem.run_bind, run_underlying hT.u, Result.andThen_ok, sizeOf_run hT.size]
        simp [h24, h0, hzv]
        have hff' : Instr.fill (fun i => some (i, 1)) (Array.map (fun x => z.cells[x % z.cells.size]!) (Array.range us.length)) (enumV 0 us) = some us.toArray := by simpa using hff
        first | simp [hff', newRow] | (simp at hff'; simp [hff', newRow])
    simp only [execOp, Sem.run_bind, List.map_toArray, hps, key, Result.andThen_ok, Sem.run_pure]
  · exact ⟨some ⟨b, 0, none⟩, us.length, rfl, by simp, fun j u hj => ⟨b, 0, us.toArray, E, (0, 0), rfl, by simp, by simpa using hj⟩⟩
  · refine ⟨some ⟨b, 0, none⟩, us.length, rfl, Nat.le_refl _, by omega, fun i hi => ⟨b, 0, rfl, [us[i]], rfl, rfl, b, 0 + i * 1, us.toArray, E, (0, 0), rfl, by simp, fun j u hj => ?_⟩⟩
    cases j with
    | zero => simpa [hi] using hj
    | succ j => simp at hj

/-- A slice that is written out, one cell an element: owned memory. -/
theorem kl_bsO {T E by' n : Nat} {z : Value} [hT : IsSlice C.P T E 1 by' z] {ps : List (Nat × Operand)} {pv : List (Nat × Value)} {us : List Value}
    (hp : evp G ps = some pv) (he : pv = enumV 0 us) (hn : Nat.beq us.length n = true) (hm : n ≤ 1000) (hu : ∀ u ∈ us, u.cells = #[u])
    (h : ∀ v H, Fr C.B H → OwnS E 1 H v n us → KL C dr ops Q ims (H :: L) fl.tail rest ((d, v) :: G)) (hlt : Nat.blt d C.n = true := by rfl) (hfl : fl.headD false = false := by rfl) :
    KL C dr ops Q ims L fl (⟨some d, .buildSlice T n ps.toArray, ty, pos, af, none⟩ :: rest) G := by
  have hn := Nat.eq_of_beq_eq_true hn
  subst hn he
  refine kl_new (v := fun b => .slice (some ⟨b, 0, none⟩) us.length us.length) (o := .cells us.toArray E) (fun r w hr => ?_) (fun b hb => h _ _ (fr_sing hb) ?_) hlt hfl
  · have hps := evp_run hr hp
    have hz := hT.z
    have hzv : (zeroValue E).run C.P w = .ok z w := zeroValue_run (by obtain ⟨i, hi, hz', _⟩ := hT.info; simp [hi, hz']) w
    have key : (Instr.buildSlice T us.length (enumV 0 us).toArray).run C.P w = .ok (.slice (some ⟨w.heap.size, 0, none⟩) us.length us.length) (w.alloc (.cells us.toArray E)) := by
      by_cases h0 : us.length = 0
      · have : us = [] := List.eq_nil_of_length_eq_zero h0
        subst this
        simp [Instr.buildSlice, run_underlying hT.u, sizeOf_run hT.size, enumV, Instr.fill, newRow, Array.range]
      · have hnn : us.length * 1 ≠ 0 := by omega
        have hff := fill_one us 0 ((Array.range (us.length * 1)).map (z.cells[· % z.cells.size]!)) hu (by simp)
        simp only [List.take_zero, List.nil_append, Nat.zero_add] at hff
        have hdrop : ((Array.range (us.length * 1)).map (z.cells[· % z.cells.size]!)).toList.drop us.length = [] := by simp
        rw [hdrop, List.append_nil] at hff
        have h24 : ¬ (16777216 < us.length) := by omega
        simp only [Instr.buildSlice, Sem.run_bind, run_underlying hT.u, Result.andThen_ok, sizeOf_run hT.size]
        simp [h24, h0, hzv]
        have hff' : Instr.fill (fun i => some (i, 1)) (Array.map (fun x => z.cells[x % z.cells.size]!) (Array.range us.length)) (enumV 0 us) = some us.toArray := by simpa using hff
        first | simp [hff', newRow] | (simp at hff'; simp [hff', newRow])
    simp only [execOp, Sem.run_bind, List.map_toArray, hps, key, Result.andThen_ok, Sem.run_pure]
  · exact ⟨by simp, by omega, .inr ⟨b, us.length, us.toArray, rfl, Nat.le_refl _, by simp only [maxLen]; omega, by simp, by simp, rfl⟩⟩

/-- An append to a slice that is owned. -/
theorem kl_app {x y : Operand} {T E k by' n m : Nat} {z : Value} [hT : IsSlice C.P T E k by' z] {H K : Hp} {v u : Value} {cs news : List Value} {F : Hp → List Hp} [hF : UpdF H L F] [hi : In K ims]
    (hx : ev G x = some v) (hy : ev G y = some u) (hv : OwnS E k H v n cs) (hu : Rd K k u m news) (h1 : ∀ x ∈ news, x.oneCell' = true) (hb : n + m ≤ 1073741824) (hby : by' ≤ 1024)
    (h : ∀ v' H', OwnS E k H' v' (n + m) (cs ++ news) → (∀ B : World, Fr B H → B.heap.size ≤ C.B.heap.size → Fr B H') → KL C dr ops Q ims (F H') fl.tail rest ((d, v') :: G)) (hlt : Nat.blt d C.n = true := by rfl) (hfl : fl.headD false = false := by rfl) (hdr : (!dr || rest.isEmpty || C.lo) = true := by rfl) :
    KL C dr ops Q ims L fl (⟨some d, .call ⟨.builtin .append, #[x, y], #[T, T]⟩, ty, pos, af, none⟩ :: rest) G :=
  kl_act rfl hfl fun a w hf hs => by
    obtain ⟨i, hinfo, hz, hk, hbb⟩ := hT.info
    obtain ⟨a2, c2, rfl, hl2, hc2⟩ := hu
    have hown := hs.own H (hF.u H).mem
    have hK := hs.im K hi.mem
    have hmem : ∀ H', (OwnS E k H' = OwnS E k H') := fun _ => rfl
    have hnb : (n + m) * i.bytes ≤ 140737488355328 := by
      rw [hbb]
      calc (n + m) * by' ≤ 1073741824 * 1024 := Nat.mul_le_mul hb hby
        _ ≤ 140737488355328 := by decide
    have hdr' : rest = [] ∨ (dr = true → C.lo = true) := by
      cases dr with
      | true =>
        simp only [Bool.not_true, Bool.false_or, Bool.or_eq_true, List.isEmpty_iff] at hdr
        exact hdr.imp id (fun h _ => h)
      | false => right; intro e; cases e
    -- what is done once the run is known
    have fin : ∀ (v' : Value) (w' : World) (H' : Hp), (Builtin.append_ #[T, T] ty #[v, .slice a2 m c2]).run C.P w = .ok v' w' → OwnS E k H' v' (n + m) (cs ++ news) →
        (∀ b, H' b ≠ none → H b ≠ none ∨ w.heap.size ≤ b) → w.heap.size ≤ w'.heap.size → (∀ b, b < w.heap.size → H b = none → w'.heap[b]? = w.heap[b]?) → Agree H' w' → Io w w' → (Liq H → Liq H') →
        Oper.wp C.P ⟨some d, .call ⟨.builtin .append, #[x, y], #[T, T]⟩, ty, pos, af, none⟩ a w (fun a' w' => ∃ ims2 L2 G2, (rest = [] ∨ (dr = true → ∀ u, St C.B C.X ims2 (C.W L2) u → St C.B C.X ims (C.W L) u)) ∧
          Fit C.m G2 a' ∧ St C.B C.X ims2 L2 w' ∧ KL C dr ops Q ims2 L2 fl.tail rest G2) (fun _ _ _ => False) := fun v' w' H' hrun ho hd hsz he hA hio hlq => by
      have hr : (execOp a.eval ⟨some d, .call ⟨.builtin .append, #[x, y], #[T, T]⟩, ty, pos, af, none⟩).run C.P w = .ok (.value v') w' := by
        simp only [execOp, resolve, Sem.run_bind, Sem.run_pure, Result.andThen_ok, invoke, builtin, List.map_toArray, List.map_cons, List.map_nil, hf.ev hx, hf.ev hy, hrun]
      unfold Oper.wp
      rw [hr]
      refine ⟨ims, F H', _, hdr'.imp id (fun h e u hu => hu.wlo (h e)), hf.put (by simpa [Nat.blt_eq, Cx.m] using hlt), hs.upd (u := ⟨hF.u H'⟩) hsz he hA hd hio, h v' H' ho (fun B hB hBB => ⟨fun b hb => ?_, hlq hB.2⟩)⟩
      rcases hd b hb with h' | h'
      · exact hB.1 b h'
      · exact Nat.le_trans hBB (Nat.le_trans hs.size h')
    have grown : ∀ (w0 : World) (old : Nat), w0.heap = w.heap → old < n + m → ∀ c, n + m ≤ c → c ≤ maxLen →
        OwnS E k (sing w.heap.size (.cells (cs.toArray ++ news.toArray ++ Builtin.zeroCells z.cells (c - (n + m))) E (0, 0))) (.slice (some ⟨w.heap.size, 0, none⟩) (n + m) c) (n + m) (cs ++ news) := by
      intro w0 old _ _ c hc hcm
      have hlen : (cs ++ news).length = (n + m) * k := by rw [List.length_append, hv.1, hl2, Nat.add_mul]
      refine ⟨hlen, by omega, .inr ⟨_, c, _, rfl, hc, hcm, ?_, ?_, rfl⟩⟩
      · simp only [Array.size_append, List.size_toArray, size_zeroCells, hT.z]
        have : cs.length + news.length = (n + m) * k := by rw [← hlen, List.length_append]
        rw [this, ← Nat.add_mul]
        refine Nat.le_of_eq ?_
        congr 1; omega
      · simp only [Array.toList_append, List.append_assoc]
        rw [← List.append_assoc, ← hlen]
        exact List.take_left
    by_cases hm0 : m = 0
    · subst hm0
      have hnw : news = [] := List.eq_nil_of_length_eq_zero (by simpa using hl2)
      subst hnw
      refine fin v w H ?_ (by simpa using hv) (fun b hb => .inl hb) (Nat.le_refl _) (fun _ _ _ => rfl) hown.1 (Io.refl _) (fun h => h)
      rcases hv.2.2 with ⟨a0, rfl, rfl, _⟩ | ⟨b, c, cur, rfl, h2, _⟩
      · cases a0 <;> cases a2 <;> simp [Builtin.append_, run_underlying hT.u, Go.sizeOf, typeInfo, hinfo, Builtin.lenOf, Builtin.firstCells, loadCells, loadCellsFrom, storeCells]
      · cases a2 <;> simp [Builtin.append_, run_underlying hT.u, Go.sizeOf, typeInfo, hinfo, Builtin.lenOf, Builtin.firstCells, loadCells, loadCellsFrom, storeCells, h2]
    · have hKd : ∀ w' : World, w'.heap = w.heap → ∀ b o, K b = some o → w'.heap[b]? = some o := fun w' e b o hb => by rw [e]; exact hK b o hb
      have hm : 0 < m := Nat.pos_of_ne_zero hm0
      have hlp : 0 < news.length := by rw [hl2]; exact Nat.mul_pos hm hT.p
      obtain ⟨b2, o2, _, _, _, ha2, _⟩ := hc2 0 _ (List.getElem?_eq_getElem hlp)
      subst ha2
      have hnews : ∀ (w : World), (∀ b o, K b = some o → w.heap[b]? = some o) → ∀ j u, news[j]? = some u → w.cell? ((⟨b2, o2, none⟩ : Addr).add j) = some u := fun w hw j u hj => by
        obtain ⟨b3, o3, cs', T', fz, e3, h1, h2⟩ := hc2 j u hj
        simp only [Option.some.injEq, Addr.mk.injEq, and_true] at e3
        obtain ⟨rfl, rfl⟩ := e3
        rw [Addr.add_lit]
        simp [World.cell?, hw _ _ h1, h2]
      rcases hv.2.2 with ⟨a0, rfl, rfl, rfl⟩ | ⟨b, c, cur, rfl, h2, h3, h4, h5, rfl⟩
      · have hcs : cs = [] := List.eq_nil_of_length_eq_zero (by simpa using hv.1)
        subst hcs
        have hrun : (Builtin.append_ #[T, T] ty #[.slice a0 0 0, .slice (some ⟨b2, o2, none⟩) m c2]).run C.P w =
            .ok (.slice (some ⟨w.heap.size, 0, none⟩) m (grownCap w m 0 E)) (w.drew.alloc (.cells (news.toArray ++ Builtin.zeroCells z.cells (grownCap w m 0 E - m)) E)) := by
          cases a0 with
          | none => exact run_append_nil (P := C.P) w T ty E i z hT.u hinfo hz ⟨b2, o2, none⟩ m c2 news (by rw [hk]; exact hl2) (hnews w (hKd w rfl)) hm (by omega) (by simp only [Nat.zero_add] at hnb; omega)
          | some a0 =>
            have := run_append_grow (P := C.P) w T ty E i z hT.u hinfo hz a0 0 0 [] (by simp) (by simp) ⟨b2, o2, none⟩ m c2 news (by rw [hk]; exact hl2) (hnews w (hKd w rfl)) (by omega) (by omega) (by
              simp only [Nat.zero_add] at hnb ⊢; rw [nextslicecap_zero hm]; omega)
            simpa using this
        have hge := grownCap_ge w m 0 E
        have hle := grownCap_le_maxLen w m 0 E (by simp only [maxLen]; omega)
        have hg := grown w 0 rfl (by omega) (grownCap w m 0 E) (by simpa using hge) hle
        simp only [Nat.zero_add, List.nil_append] at hg ⊢
        refine fin _ _ _ hrun (by simpa using hg) (fun b' hb' => .inr ?_) (by simp) (fun b' hb' _ => heap_alloc_old w.drew _ hb') ?_ ⟨rfl, rfl⟩ (fun _ => liq_sing)
        · by_cases e : b' = w.heap.size
          · omega
          · simp [sing, e] at hb'
        · have := agree_alloc w.drew (.cells (news.toArray ++ Builtin.zeroCells z.cells (grownCap w m 0 E - m)) E)
          simpa using this
      · by_cases hroom : n + m ≤ c
        · have hA := hown.1 b _ (sing_self _ _)
          have hrun := run_append_room (P := C.P) w T ty E i hT.u hinfo b n c cur hA ⟨b2, o2, none⟩ m c2 news (by rw [hk]; exact hl2) (hnews w (hKd w rfl)) h1 hroom (by
            rw [hk, hl2, ← Nat.add_mul]; exact Nat.le_trans (Nat.mul_le_mul_right _ hroom) h4)
          rw [hk] at hrun
          refine fin _ _ (sing b (.cells (cur.toList.take (n * k) ++ news ++ cur.toList.drop (n * k + news.length)).toArray E (0, 0))) hrun ⟨by rw [List.length_append, hv.1, hl2, Nat.add_mul], by omega, .inr ⟨b, c, _, rfl, hroom, h3, ?_, ?_, rfl⟩⟩ (fun b' hb' => .inl ?_) (by simp) (fun b' _ hn => ?_) (fun b' o' hb' => ?_) ⟨rfl, rfl⟩ (fun _ => liq_sing)
          · have : n * k + m * k ≤ cur.size := by rw [← Nat.add_mul]; exact Nat.le_trans (Nat.mul_le_mul_right _ hroom) h4
            refine Nat.le_trans h4 ?_
            simp only [List.size_toArray, List.length_append, List.length_take, List.length_drop, Array.length_toList, hl2]
            omega
          · have hlen : (cs ++ news).length = (n + m) * k := by rw [List.length_append, hv.1, hl2, Nat.add_mul]
            simp only []
            rw [h5, ← hlen]
            exact List.take_left
          · by_cases e : b' = b
            · subst e; simp
            · simp [sing, e] at hb'
          · have hne : b' ≠ b := fun e => by subst e; simp at hn
            exact setRow_other w b b' _ hne
          · obtain ⟨rfl, rfl⟩ := sing_some hb'
            exact setRow_heap w _ cur _ E _ hA
        · have hA := hown.1 b _ (sing_self _ _)
          have holds : ∀ j u, cs[j]? = some u → w.cell? ((⟨b, 0, none⟩ : Addr).add j) = some u := fun j u hj => by
            rw [Addr.add_lit]
            rw [← h5, List.getElem?_take] at hj
            split at hj
            · simp [World.cell?, hA]; simpa using hj
            · cases hj
          have hrun := run_append_grow (P := C.P) w T ty E i z hT.u hinfo hz ⟨b, 0, none⟩ n c cs (by rw [hk]; exact hv.1) holds ⟨b2, o2, none⟩ m c2 news (by rw [hk]; exact hl2) (hnews w (hKd w rfl)) (by omega) (by omega) (growslice_fits (by omega) hnb)
          have hge := grownCap_ge w (n + m) c E
          have hle := grownCap_le_maxLen w (n + m) c E (by simp only [maxLen]; omega)
          have hg := grown w c rfl (by omega) (grownCap w (n + m) c E) hge hle
          refine fin _ _ _ hrun hg (fun b' hb' => .inr ?_) (by simp) (fun b' hb' _ => heap_alloc_old w.drew _ hb') ?_ ⟨rfl, rfl⟩ (fun _ => liq_sing)
          · by_cases e : b' = w.heap.size
            · omega
            · simp [sing, e] at hb'
          · exact agree_alloc w.drew _
end ops

/-- What a slice holds, as one row of cells. -/
theorem Sl.rd {A : Type} {H : Hp} {k : Nat} {R : List Value → A → Prop} {v : Value} {xs : List A} (h : Sl H k R v xs) :
    ∃ news, Rd H k v xs.length news ∧ ∀ i (hi : i < xs.length), R ((news.drop (i * k)).take k) xs[i] := by
  obtain ⟨a, c, rfl, hc, hb, he⟩ := h
  by_cases h0 : xs.length = 0
  · exact ⟨[], ⟨a, c, rfl, by simp [h0], fun j u hj => by simp at hj⟩, fun i hi => by omega⟩
  · obtain ⟨b, o, rfl, vs0, hl0, _, hat0⟩ := he 0 (by omega)
    obtain ⟨b', o', cs, T, fz, hp, hb', _⟩ := hat0
    simp only [Value.pointer.injEq, Option.some.injEq, Addr.mk.injEq, and_true] at hp
    obtain ⟨rfl, rfl⟩ := hp
    have each : ∀ i (hi : i < xs.length), ∃ vs : List Value, vs.length = k ∧ R vs xs[i] ∧ ∀ t, t < k → vs[t]? = cs[o + (i * k + t)]? ∧ cs[o + (i * k + t)]? ≠ none := fun i hi => by
      obtain ⟨b1, o1, e1, vs, hl, hr, b2, o2, cs2, T2, fz2, hp, hb2, hcs⟩ := he i hi
      simp only [Option.some.injEq, Addr.mk.injEq, and_true] at e1
      obtain ⟨rfl, rfl⟩ := e1
      simp only [Value.pointer.injEq, Option.some.injEq, Addr.mk.injEq, and_true] at hp
      obtain ⟨rfl, rfl⟩ := hp
      rw [hb'] at hb2
      cases hb2
      refine ⟨vs, hl, hr, fun t ht => ?_⟩
      have := hcs t _ (List.getElem?_eq_getElem (by omega))
      rw [Nat.add_assoc] at this
      rw [List.getElem?_eq_getElem (by omega), this]
      exact ⟨rfl, by simp⟩
    refine ⟨(List.range (xs.length * k)).map (fun j => cs.getD (o + j) undef), ⟨some ⟨b, o, none⟩, c, rfl, by simp, fun j u hj => ⟨b, o, cs, T, fz, rfl, hb', ?_⟩⟩, fun i hi => ?_⟩
    · have hj' : j < xs.length * k := by have := (List.getElem?_eq_some_iff.1 hj).1; simpa using this
      have hk : 0 < k := Nat.pos_of_ne_zero fun e => by subst e; simp at hj'
      have hi : j / k < xs.length := (Nat.div_lt_iff_lt_mul hk).2 hj'
      obtain ⟨vs, _, _, hcs⟩ := each (j / k) hi
      have h2 := (hcs (j % k) (Nat.mod_lt _ hk)).2
      have e : j / k * k + j % k = j := by rw [Nat.mul_comm]; exact Nat.div_add_mod j k
      rw [e] at h2
      rw [List.getElem?_map, List.getElem?_range hj'] at hj
      simp only [Option.map_some, Option.some.injEq] at hj
      subst hj
      cases hg : cs[o + j]? with
      | none => exact absurd hg h2
      | some x => simp [Array.getD, (Array.getElem?_eq_some_iff.1 hg).1, (Array.getElem?_eq_some_iff.1 hg).2]
    · obtain ⟨vs, hl, hr, hcs⟩ := each i hi
      have hik : (i + 1) * k ≤ xs.length * k := Nat.mul_le_mul_right _ hi
      rw [Nat.add_mul] at hik
      have : (((List.range (xs.length * k)).map (fun j => cs.getD (o + j) undef)).drop (i * k)).take k = vs := by
        apply List.ext_getElem?
        intro t
        by_cases ht : t < k
        · rw [List.getElem?_take, if_pos ht, List.getElem?_drop, List.getElem?_map, List.getElem?_range (by omega), (hcs t ht).1]
          cases hg : cs[o + (i * k + t)]? with
          | none => exact absurd hg (hcs t ht).2
          | some x => simp [Array.getD, (Array.getElem?_eq_some_iff.1 hg).1, (Array.getElem?_eq_some_iff.1 hg).2]
        · rw [List.getElem?_eq_none (by simp; omega), List.getElem?_eq_none (by omega)]
      rw [this]; exact hr
end
section
abbrev Rel (A : Type) := Hp → List Value → A → Prop
class RMono {A : Type} (R : Rel A) : Prop where
  mono : ∀ {H K : Hp} {vs : List Value} {x : A}, (∀ b o, H b = some o → K b = some o) → R H vs x → R K vs x
def IntV : Rel Int := fun _ vs n => vs = [.int .i64 n]
def BoolV : Rel Bool := fun _ vs b => vs = [.bool b]
def RowV : Rel (List Int) := fun K vs xs => ∃ u, vs = [u] ∧ Ints K u xs
def BRowV : Rel (List Bool) := fun K vs xs => ∃ u, vs = [u] ∧ Bools K u xs
instance : RMono IntV := ⟨fun _ h => h⟩
instance : RMono BoolV := ⟨fun _ h => h⟩
instance : RMono RowV := ⟨fun hk ⟨u, e, h⟩ => ⟨u, e, h.mono hk (fun _ _ h => h)⟩⟩
instance : RMono BRowV := ⟨fun hk ⟨u, e, h⟩ => ⟨u, e, h.mono hk (fun _ _ h => h)⟩⟩
theorem Rows.mono' {H K : Hp} {v : Value} {xs : List (List Int)} (h : Rows H v xs) (hk : ∀ b o, H b = some o → K b = some o) : Rows K v xs :=
  Sl.mono h hk (fun _ _ ⟨u, e, h⟩ => ⟨u, e, h.mono hk (fun _ _ h => h)⟩)
instance : RMono ConV := ⟨fun hk ⟨a, b, r, e, h1, h2, h3⟩ => ⟨a, b, r, e, h1.mono hk (fun _ _ h => h), h2.mono hk (fun _ _ h => h), h3.mono' hk⟩⟩
theorem Cons.mono' {H K : Hp} {v : Value} {xs : List Con} (h : Cons H v xs) (hk : ∀ b o, H b = some o → K b = some o) : Cons K v xs := Sl.mono h hk (fun _ _ h => RMono.mono hk h)
theorem orL {H K : Hp} : ∀ b o, H b = some o → orHp H K b = some o := fun b o h => by simp [orHp, h]
def OwnL {A : Type} (E k : Nat) (H K : Hp) (R : Rel A) (v : Value) (xs : List A) : Prop :=
  ∃ cs, OwnS E k H v xs.length cs ∧ ∀ i (h : i < xs.length), R K ((cs.drop (i * k)).take k) xs[i]
theorem OwnL.nil {A : Type} {E k : Nat} {K : Hp} {R : Rel A} : OwnL E k noHp K R (.slice none 0 0) [] := ⟨[], OwnS.nil, fun i h => absurd h (Nat.not_lt_zero i)⟩
theorem OwnL.len {A : Type} {E k : Nat} {H K : Hp} {R : Rel A} {v : Value} {xs : List A} (h : OwnL E k H K R v xs) : xs.length ≤ 140737488355328 := by
  obtain ⟨cs, h, _⟩ := h; exact h.len
theorem OwnL.cells {A : Type} {E k : Nat} {H K : Hp} {R : Rel A} {v : Value} {xs : List A} (h : OwnL E k H K R v xs) : v.cells = [v].toArray := by
  obtain ⟨cs, h, _⟩ := h; exact h.cells
theorem OwnL.oneCell {A : Type} {E k : Nat} {H K : Hp} {R : Rel A} {v : Value} {xs : List A} (h : OwnL E k H K R v xs) : v.oneCell' = true := by
  obtain ⟨cs, h, _⟩ := h; exact h.oneCell
theorem OwnL.mono {A : Type} {E k : Nat} {H K K' : Hp} {R : Rel A} [RMono R] {v : Value} {xs : List A} (h : OwnL E k H K R v xs) (hk : ∀ b o, K b = some o → K' b = some o) : OwnL E k H K' R v xs := by
  obtain ⟨cs, h1, h2⟩ := h
  exact ⟨cs, h1, fun i hi => RMono.mono hk (h2 i hi)⟩
/-- What it reads as, in any heaplet that holds both. -/
theorem OwnL.sl {A : Type} {E k : Nat} {H K M : Hp} {R : Rel A} [RMono R] {R' : List Value → A → Prop} {v : Value} {xs : List A} (h : OwnL E k H K R v xs) (h1 : ∀ b o, H b = some o → M b = some o)
    (h2 : ∀ vs x, R K vs x → R' vs x) : Sl M k R' v xs := by
  obtain ⟨cs, h3, h4⟩ := h
  exact h3.sl rfl h1 (fun i hi => h2 _ _ (h4 i hi))
theorem OwnL.ints {E : Nat} {H K : Hp} {v : Value} {xs : List Int} (h : OwnL E 1 H K IntV v xs) : Ints H v xs := h.sl (fun _ _ h => h) (fun _ _ h => h)
theorem OwnL.bools {E : Nat} {H K : Hp} {v : Value} {xs : List Bool} (h : OwnL E 1 H K BoolV v xs) : Bools H v xs := h.sl (fun _ _ h => h) (fun _ _ h => h)

section ops
variable {C : Cx} {dr : Bool} {ops : Array Oper} {Q : Post} {ims L : List Hp} {G : Env} {fl : List Bool} {rest : List Oper}
  {d ty : Nat} {pos : String} {af : Array Edge} {A : Type} {R : Rel A}

theorem madeCells_drop (z : Array Value) (k n i : Nat) (hz : z.size = k) (hi : i < n) : ((madeCells z (n * k)).toList.drop (i * k)).take k = z.toList := by
  have hik : (i + 1) * k ≤ n * k := Nat.mul_le_mul_right _ hi
  rw [Nat.add_mul] at hik
  apply List.ext_getElem
  · simp [madeCells, hz]; omega
  · intro j h1 h2
    simp only [Array.length_toList, hz] at h2
    simp only [List.getElem_take, List.getElem_drop, madeCells, Array.getElem_toList, Array.getElem_map, Array.getElem_range, hz]
    have : (i * k + j) % k = j := by rw [Nat.mul_comm, Nat.mul_add_mod, Nat.mod_eq_of_lt h2]
    rw [this]
    simp [hz, h2]
/-- make([]T, n). -/
theorem kl_mkL (x0 : A) {x y : Operand} {T E k by' : Nat} {z : Value} [hT : IsSlice C.P T E k by' z] {n : Nat} (hx : ev G x = some (.int .i64 (n : Int))) (hy : ev G y = some (.int .i64 (n : Int))) (h2 : n ≤ 1073741824) (hb : by' ≤ 1024)
    (hz : R noHp z.cells.toList x0)
    (h : ∀ v H, Fr C.B H → OwnL E k H noHp R v (List.replicate n x0) → KL C dr ops Q ims (H :: L) fl.tail rest ((d, v) :: G)) (hlt : Nat.blt d C.n = true := by rfl) (hfl : fl.headD false = false := by rfl) :
    KL C dr ops Q ims L fl (⟨some d, .makeSlice T x y, ty, pos, af, none⟩ :: rest) G :=
  kl_make hx hy (by omega) (Int.le_refl _) (by omega) hb (fun v H f ho => h v H f (by
    simp only [Int.toNat_natCast] at ho
    refine ⟨_, by simpa using ho, fun i hi => ?_⟩
    simp only [List.length_replicate] at hi
    have hfull : List.take (n * k) (madeCells z.cells (n * k)).toList = (madeCells z.cells (n * k)).toList := by
      rw [List.take_of_length_le]; simp [size_madeCells]
    rw [hfull, madeCells_drop _ _ _ _ hT.z hi, List.getElem_replicate]
    exact hz)) hlt hfl
/-- make([]T, 0, c). -/
theorem kl_mkL0 {x y : Operand} {T E k by' : Nat} {z : Value} [hT : IsSlice C.P T E k by' z] {c : Int} (hx : ev G x = some (.int .i64 0)) (hy : ev G y = some (.int .i64 c)) (h1 : 0 ≤ c) (h2 : c ≤ 1073741824) (hb : by' ≤ 1024)
    (h : ∀ v H, Fr C.B H → OwnL E k H noHp R v [] → KL C dr ops Q ims (H :: L) fl.tail rest ((d, v) :: G)) (hlt : Nat.blt d C.n = true := by rfl) (hfl : fl.headD false = false := by rfl) :
    KL C dr ops Q ims L fl (⟨some d, .makeSlice T x y, ty, pos, af, none⟩ :: rest) G :=
  kl_mk0 hx hy h1 h2 hb (fun v H f ho => h v H f ⟨[], ho, fun i hi => absurd hi (Nat.not_lt_zero i)⟩) hlt hfl

/-- p is where element i of v lies. -/
def PtrL (k : Nat) (v p : Value) (i : Nat) : Prop := PtrO v p (i * k)
theorem lL {E k : Nat} {H K : Hp} {v : Value} {xs : List A} {x : Operand} {T E' k' by' : Nat} {z : Value} [hT : IsSlice C.P T E' k' by' z]
    (hx : ev G x = some v) (hv : OwnL E k H K R v xs) (h : xs.length ≤ 140737488355328 → KL C dr ops Q ims L fl.tail rest ((d, .int .i64 xs.length) :: G)) (hlt : Nat.blt d C.n = true := by rfl) :
    KL C dr ops Q ims L fl (⟨some d, .call ⟨.builtin .len, #[x], #[T]⟩, ty, pos, af, none⟩ :: rest) G := by
  obtain ⟨cs, h1, _⟩ := hv
  exact kl_lenO hx h1 h hlt
theorem kl_ixL {E k : Nat} {H K : Hp} {v : Value} {xs : List A} {x y : Operand} {i : Int} {T E' by' : Nat} {z : Value} [hT : IsSlice C.P T E' k by' z]
    (hx : ev G x = some v) (hy : ev G y = some (.int .i64 i)) (hv : OwnL E k H K R v xs) (h0 : 0 ≤ i) (h1 : i < xs.length)
    (h : ∀ p, PtrL k v p i.toNat → KL C dr ops Q ims L fl.tail rest ((d, p) :: G)) (hlt : Nat.blt d C.n = true := by rfl) :
    KL C dr ops Q ims L fl (⟨some d, .indexAddr T x y, ty, pos, af, none⟩ :: rest) G := by
  obtain ⟨cs, h2, _⟩ := hv
  exact kl_ixO hx hy h2 h0 h1 h hlt
theorem kl_ixLn {E k : Nat} {H K : Hp} {v : Value} {xs : List A} {x y : Operand} {i : Nat} {T E' by' : Nat} {z : Value} [hT : IsSlice C.P T E' k by' z]
    (hx : ev G x = some v) (hy : ev G y = some (.int .i64 (i : Int))) (hv : OwnL E k H K R v xs) (h1 : i < xs.length)
    (h : ∀ p, PtrL k v p i → KL C dr ops Q ims L fl.tail rest ((d, p) :: G)) (hlt : Nat.blt d C.n = true := by rfl) :
    KL C dr ops Q ims L fl (⟨some d, .indexAddr T x y, ty, pos, af, none⟩ :: rest) G := kl_ixL hx hy hv (by omega) (by omega) h hlt
theorem OwnL.at1 {E : Nat} {H K : Hp} {v : Value} {xs : List A} (h : OwnL E 1 H K R v xs) {i : Nat} (hi : i < xs.length) : ∃ cs u, OwnS E 1 H v xs.length cs ∧ cs[i]? = some u ∧ R K [u] xs[i] := by
  obtain ⟨cs, h1, h2⟩ := h
  have h3 := h2 i hi
  have hl : i < cs.length := by have := h1.1; omega
  refine ⟨cs, cs[i], h1, by simp [hl], ?_⟩
  simp only [Nat.mul_one] at h3
  rw [List.drop_eq_getElem_cons hl, List.take_succ_cons, List.take_zero] at h3
  exact h3
theorem kl_ldLI {E i : Nat} {H K : Hp} {v p : Value} {xs : List Int} {x : Operand} {T : Nat} [hT : OneC C.P T] (hx : ev G x = some p) (hp : PtrL 1 v p i) (hv : OwnL E 1 H K IntV v xs) [hi : In H L] (hc : i < xs.length)
    (h : KL C dr ops Q ims L fl.tail rest ((d, .int .i64 (xs.getD i 0)) :: G)) (hlt : Nat.blt d C.n = true := by rfl) (hlo : C.lo = false := by rfl) : KL C dr ops Q ims L fl (⟨some d, .load T x, ty, pos, af, none⟩ :: rest) G := by
  obtain ⟨cs, u, h1, h2, h3⟩ := hv.at1 hc
  unfold IntV at h3
  simp at h3
  subst h3
  refine kl_ldO hx hp h1 (by simpa using h2) ?_ hlt hlo
  have : xs.getD i 0 = xs[i] := by simp [List.getD_eq_getElem?_getD, hc]
  rw [← this]; exact h
/-- A store of one cell. -/
theorem kl_stL {x y : Operand} {T i E : Nat} {H K : Hp} {v p u : Value} {xs : List A} {F : Hp → List Hp} [hT : OneC C.P T] [hF : UpdF H L F] (x1 : A)
    (hx : ev G x = some p) (hy : ev G y = some u) (hp : PtrL 1 v p i) (hv : OwnL E 1 H K R v xs) (hi : i < xs.length) (hR : R K [u] x1) (h1 : u.oneCell' = true) (hu : u.cells = [u].toArray)
    (h : ∀ H', OwnL E 1 H' K R v (xs.set i x1) → (∀ B, Fr B H → Fr B H') → KL C dr ops Q ims (F H') fl.tail rest G) (hfl : fl.headD false = false := by rfl) (hdr : (!dr || rest.isEmpty) = true := by rfl) :
    KL C dr ops Q ims L fl (⟨none, .store T x y, ty, pos, af, none⟩ :: rest) G := by
  obtain ⟨cs, h2, h3⟩ := hv
  have hl : cs.length = xs.length := by have := h2.1; omega
  refine kl_stO hx hy hp h2 (by omega) h1 hu (fun H' ho hf => h H' ⟨_, by simpa using ho, fun j hj => ?_⟩ hf) hfl hdr
  simp only [List.length_set] at hj
  have h4 := h3 j hj
  have hjl : j < cs.length := by omega
  simp only [Nat.mul_one] at h4 ⊢
  rw [List.drop_eq_getElem_cons hjl] at h4
  rw [List.drop_eq_getElem_cons (by simpa using hjl)]
  simp only [List.take_succ_cons, List.take_zero, List.getElem_set] at h4 ⊢
  by_cases e : i = j
  · subst e; simpa using hR
  · simpa [e] using h4
/-- A store of an element of k cells. -/
theorem kl_stLk {x y : Operand} {T i E k : Nat} {H K : Hp} {v p u : Value} {us : List Value} {xs : List A} {F : Hp → List Hp} [hT : AggC C.P T k] [hF : UpdF H L F] (x1 : A)
    (hx : ev G x = some p) (hy : ev G y = some u) (hp : PtrL k v p i) (hv : OwnL E k H K R v xs) (hi : i < xs.length) (hR : R K us x1) (hk : Nat.beq us.length k = true) (h1 : ∀ x ∈ us, x.oneCell' = true) (hu : u.cells = us.toArray)
    (h : ∀ H', OwnL E k H' K R v (xs.set i x1) → (∀ B, Fr B H → Fr B H') → KL C dr ops Q ims (F H') fl.tail rest G) (hfl : fl.headD false = false := by rfl) (hdr : (!dr || rest.isEmpty) = true := by rfl) :
    KL C dr ops Q ims L fl (⟨none, .store T x y, ty, pos, af, none⟩ :: rest) G := by
  obtain ⟨cs, h2, h3⟩ := hv
  have hus := Nat.eq_of_beq_eq_true hk
  have hl : cs.length = xs.length * k := h2.1
  have hik : (i + 1) * k ≤ xs.length * k := Nat.mul_le_mul_right _ hi
  rw [Nat.add_mul] at hik
  refine kl_stE hx hy hp h2 (by omega) hk h1 hu (fun H' ho hf => h H' ⟨_, by rw [List.length_set]; exact ho, fun j hj => ?_⟩ hf) hfl hdr
  simp only [List.length_set] at hj
  have h4 := h3 j hj
  have hjk : (j + 1) * k ≤ xs.length * k := Nat.mul_le_mul_right _ hj
  rw [Nat.add_mul] at hjk
  by_cases e : i = j
  · subst e
    have : ((cs.take (i * k) ++ us ++ cs.drop (i * k + k)).drop (i * k)).take k = us := by
      rw [List.append_assoc, List.drop_left' (by simp; omega), List.take_left' hus]
    rw [this]; simpa using hR
  · have : ((cs.take (i * k) ++ us ++ cs.drop (i * k + k)).drop (j * k)).take k = (cs.drop (j * k)).take k := by
      have hne : i * k + k ≤ j * k ∨ j * k + k ≤ i * k := by
        rcases Nat.lt_or_gt_of_ne e with h | h
        · left; have := Nat.mul_le_mul_right k (show i + 1 ≤ j from h); rw [Nat.add_mul] at this; omega
        · right; have := Nat.mul_le_mul_right k (show j + 1 ≤ i from h); rw [Nat.add_mul] at this; omega
      apply List.ext_getElem?
      intro q
      simp only [List.getElem?_take, List.getElem?_drop, List.getElem?_append, List.length_append, List.length_take, hus]
      have e2 : min (i * k) cs.length = i * k := by omega
      simp only [e2]
      by_cases hq : q < k
      · rw [if_pos hq, if_pos hq]
        rcases hne with h | h
        · rw [if_neg (by omega)]; congr 1; omega
        · rw [if_pos (by omega), if_pos (by omega), if_pos (by omega)]
      · rw [if_neg hq, if_neg hq]
    rw [this]
    have h5 : (xs.set i x1)[j]'(by simpa using hj) = xs[j] := by simp [e]
    rw [h5]; exact h4
/-- An append of one element. -/
theorem aL9 {x y : Operand} {T E k by' : Nat} {z : Value} [hT : IsSlice C.P T E k by' z] {H K M : Hp} {v u : Value} {us : List Value} {xs : List A} {F : Hp → List Hp} [hF : UpdF H L F] [hi : In M ims] (x1 : A)
    (hx : ev G x = some v) (hy : ev G y = some u) (hv : OwnL E k H K R v xs) (hu : Rd M k u 1 us) (hR : R K us x1) (h1 : ∀ x ∈ us, x.oneCell' = true) (hb : xs.length + 1 ≤ 1073741824) (hby : by' ≤ 1024)
    (h : ∀ v' H', OwnL E k H' K R v' (xs ++ [x1]) → (∀ B : World, Fr B H → B.heap.size ≤ C.B.heap.size → Fr B H') → KL C dr ops Q ims (F H') fl.tail rest ((d, v') :: G)) (hlt : Nat.blt d C.n = true := by rfl) (hfl : fl.headD false = false := by rfl) (hdr : (!dr || rest.isEmpty || C.lo) = true := by rfl) :
    KL C dr ops Q ims L fl (⟨some d, .call ⟨.builtin .append, #[x, y], #[T, T]⟩, ty, pos, af, none⟩ :: rest) G := by
  obtain ⟨cs, h2, h3⟩ := hv
  have hus : us.length = k := by obtain ⟨_, _, _, h, _⟩ := hu; omega
  refine kl_app hx hy h2 hu h1 hb hby (fun v' H' ho hf => h v' H' ⟨_, by simpa using ho, fun j hj => ?_⟩ hf) hlt hfl hdr
  have hl : cs.length = xs.length * k := h2.1
  simp only [List.length_append, List.length_cons, List.length_nil] at hj
  by_cases e : j < xs.length
  · have hjk : (j + 1) * k ≤ xs.length * k := Nat.mul_le_mul_right _ e
    rw [Nat.add_mul] at hjk
    rw [List.drop_append_of_le_length (by omega), List.take_append_of_le_length (by simp; omega), List.getElem_append_left e]
    exact h3 j e
  · have hj' : j = xs.length := by omega
    subst hj'
    rw [List.drop_left' hl, List.take_of_length_le (by omega)]
    simpa using hR
end ops
class ROne {A : Type} (R : Rel A) : Prop where
  one : ∀ {K : Hp} {vs : List Value} {x : A}, R K vs x → ∀ u ∈ vs, u.oneCell' = true
instance : ROne IntV := ⟨fun h u hu => by subst h; rw [List.mem_singleton.1 hu]; rfl⟩
instance : ROne BoolV := ⟨fun h u hu => by subst h; rw [List.mem_singleton.1 hu]; rfl⟩
instance : ROne RowV := ⟨fun ⟨_, e, h⟩ u hu => by subst e; rw [List.mem_singleton.1 hu]; exact h.oneCell⟩
instance : ROne ConV := ⟨fun ⟨_, _, _, e, h1, h2, h3⟩ u hu => by
  subst e
  simp only [List.mem_cons, List.not_mem_nil, or_false] at hu
  rcases hu with rfl | rfl | rfl | rfl | rfl
  · rfl
  · exact h1.oneCell
  · exact h2.oneCell
  · rfl
  · exact h3.oneCell⟩
section whole
variable {A : Type} {R : Rel A} {C : Cx} {dr : Bool} {ops : Array Oper} {Q : Post} {ims L : List Hp} {G : Env} {fl : List Bool} {rest : List Oper} {d ty : Nat} {pos : String} {af : Array Edge}
/-- An append of a whole slice. -/
theorem kl_apS {x y : Operand} {T E k by' : Nat} {z : Value} [hT : IsSlice C.P T E k by' z] [hO : ROne R] {H K M : Hp} {R' : List Value → A → Prop} {v u : Value} {xs ys : List A} {F : Hp → List Hp} [hF : UpdF H L F] [hi : In M ims]
    (hx : ev G x = some v) (hy : ev G y = some u) (hv : OwnL E k H K R v xs) (hu : Sl M k R' u ys) (hR : ∀ vs y, R' vs y → R K vs y) (hb : xs.length + ys.length ≤ 1073741824) (hby : by' ≤ 1024)
    (h : ∀ v' H', OwnL E k H' K R v' (xs ++ ys) → (∀ B : World, Fr B H → B.heap.size ≤ C.B.heap.size → Fr B H') → KL C dr ops Q ims (F H') fl.tail rest ((d, v') :: G)) (hlt : Nat.blt d C.n = true := by rfl) (hfl : fl.headD false = false := by rfl) (hdr : (!dr || rest.isEmpty || C.lo) = true := by rfl) :
    KL C dr ops Q ims L fl (⟨some d, .call ⟨.builtin .append, #[x, y], #[T, T]⟩, ty, pos, af, none⟩ :: rest) G := by
  obtain ⟨cs, h2, h3⟩ := hv
  obtain ⟨news, hrd, hel⟩ := hu.rd
  have hlen : news.length = ys.length * k := by obtain ⟨_, _, _, h, _⟩ := hrd; exact h
  have hl : cs.length = xs.length * k := h2.1
  have hone : ∀ w ∈ news, w.oneCell' = true := fun w hw => by
    obtain ⟨j, hj, rfl⟩ := List.getElem_of_mem hw
    have hk : 0 < k := hT.p
    have hi : j / k < ys.length := (Nat.div_lt_iff_lt_mul hk).2 (by omega)
    refine hO.one (hR _ _ (hel (j / k) hi)) _ ?_
    have e : j / k * k + j % k = j := by rw [Nat.mul_comm]; exact Nat.div_add_mod j k
    have hm := Nat.mod_lt j hk
    rw [List.mem_iff_getElem?]
    refine ⟨j % k, ?_⟩
    rw [List.getElem?_take, if_pos hm, List.getElem?_drop, e]
    exact List.getElem?_eq_getElem hj
  refine kl_app hx hy h2 hrd hone hb hby (fun v' H' ho hf => h v' H' ⟨_, by simpa using ho, fun j hj => ?_⟩ hf) hlt hfl hdr
  rw [List.length_append] at hj
  by_cases e : j < xs.length
  · have hjk : (j + 1) * k ≤ xs.length * k := Nat.mul_le_mul_right _ e
    rw [Nat.add_mul] at hjk
    rw [List.drop_append_of_le_length (by omega), List.take_append_of_le_length (by simp; omega), List.getElem_append_left e]
    exact h3 j e
  · have hjx : j * k = cs.length + (j - xs.length) * k := by rw [hl, ← Nat.add_mul]; congr 1; omega
    have e1 : (cs ++ news).drop (j * k) = news.drop ((j - xs.length) * k) := by
      rw [hjx, List.drop_append, List.drop_eq_nil_of_le (by omega), List.nil_append]
      congr 1; omega
    rw [e1, List.getElem_append_right (by omega)]
    exact hR _ _ (hel _ (by omega))
end whole
end
section
/-- Two heaplets of one world. -/
def Cmp (H K : Hp) : Prop := ∀ b o o', H b = some o → K b = some o' → o = o'
theorem Cmp.symm {H K : Hp} (h : Cmp H K) : Cmp K H := fun b o o' h1 h2 => (h b o' o h2 h1).symm
theorem orC {H K : Hp} (c : Cmp H K) : ∀ b o, K b = some o → orHp H K b = some o := fun b o h => by
  cases hh : H b with
  | none => simp [orHp, hh, h]
  | some x => simp [orHp, hh, c b x o hh h]
theorem agree_cmp {H K : Hp} {w : World} (h : Agree H w) (k : Agree K w) : Cmp H K := fun b o o' h1 h2 => by
  have := (h b o h1).symm.trans (k b o' h2)
  simpa using this
section
variable {C : Cx} {Q : Post} {ims L : List Hp} {G : Env}
theorem kq_cmp (H K : Hp) [g : Got H ims L] [k : Got K ims L] {p : Act → World → Prop} (h : Cmp H K → KQ C ims L G p) : KQ C ims L G p := fun a w hf hs => h (agree_cmp (g.g hs) (k.g hs)) a w hf hs
theorem cm9 (H K : Hp) [g : Got H ims L] [k : Got K ims L] {dr : Bool} {ops : Array Oper} {fl : List Bool} {l : List Oper} (h : Cmp H K → KL C dr ops Q ims L fl l G) : KL C dr ops Q ims L fl l G :=
  fun a w hf hs => h (agree_cmp (g.g hs) (k.g hs)) a w hf hs
end
theorem oc_nil : ∀ x ∈ ([] : List Value), x.oneCell' = true := fun _ h => by cases h
theorem oc {u : Value} {us : List Value} (h : u.oneCell' = true) (t : ∀ x ∈ us, x.oneCell' = true) : ∀ x ∈ u :: us, x.oneCell' = true := fun x hx => by
  cases hx with
  | head => exact h
  | tail _ hx => exact t x hx
theorem ca_nil : ∀ x ∈ ([] : List Value), x.cells = #[x] := fun _ h => by cases h
theorem ca {u : Value} {us : List Value} (h : u.cells = #[u]) (t : ∀ x ∈ us, x.cells = #[x]) : ∀ x ∈ u :: us, x.cells = #[x] := fun x hx => by
  cases hx with
  | head => exact h
  | tail _ hx => exact t x hx

section rets
variable {P : Program} {n : Nat} {B : World} {ims L : List Hp} {G : Env} {fn : Func} {phi : Hp → Value → Prop}
theorem kq_retC {a T b E k : Nat} {cs : List Value} {F : List Value → List Hp} [hT : AggC P T k] [hF : BoxF b cs E L F] (hr : fn.results = #[.cell a T]) (hv : look a G = some (.pointer (some ⟨b, 0, none⟩))) (hk : Nat.beq cs.length k = true)
    (H : Hp) [hg : Got H ims L] (hf : Fr B H) (hp : phi H (.agg cs.toArray)) : KQ ⟨P, n, B, noS, false, [], none⟩ ims L G (bodyPost P fn (Res B phi) .ret) := fun a' w hFt hS => by
  refine ⟨hFt.defers, .agg cs.toArray, ?_, hS.toExt, H, hg.g hS, hf, hp⟩
  have hA := (hS.own _ (hF.u cs).mem).1
  have hat : At (sing b (.cells cs.toArray E (0, 0))) (.pointer (some ⟨b, 0, none⟩)) cs := At.sing (cs := cs.toArray)
  have hc := loadCells_at (P := P) hA hat
  rw [Nat.eq_of_beq_eq_true hk] at hc
  have h1 : (loadVar T ⟨b, 0, none⟩).run P w = .ok (.agg cs.toArray) w := by
    simp only [loadVar, Sem.run_bind, Sem.run_pure, Result.andThen_ok, AggC.run, sizeOf_run hT.i, hc, if_true]
  have h2 : a'.tmps.getD a undef = .pointer (some ⟨b, 0, none⟩) := (hFt.get a _ hv).2
  simp [results, hr, asAddr]
  simp at h2
  simp [h2, h1]
end rets

/-! A call whose result the caller may write. -/
theorem kl_callL {C : Cx} {dr : Bool} {ops : Array Oper} {Q : Post} {ims L : List Hp} {G : Env} {fl : List Bool} {rest : List Oper} {d ty : Nat} {pos : String} {af : Array Edge}
    {f : Operand} {xs : List Operand} {ats : Array Nat} {g : Nat} {cap : Array Value} {vs : List Value} {ims' : List Hp} {phi : Hp → Value → Prop} [hb : FnC C.P g]
    (hf : ev G f = some (.func (.func g) #[] cap)) (ha : evs G xs = some vs) (hs : Spec C.P g (vs ++ cap.toList) ims' phi) [hi : AllGot ims' ims L]
    (h : ∀ v H, Fr C.B H → phi H v → KL C dr ops Q ims (H :: L) fl.tail rest ((d, v) :: G)) (hlt : Nat.blt d C.n = true := by rfl) (hfl : fl.headD false = false := by rfl) :
    KL C dr ops Q ims L fl (⟨some d, .call ⟨.value f, xs.toArray, ats⟩, ty, pos, af, none⟩ :: rest) G :=
  kl_act rfl hfl fun a w hF hS => by
    have hrun : (execOp a.eval ⟨some d, .call ⟨.value f, xs.toArray, ats⟩, ty, pos, af, none⟩).run C.P w = .ok (.enter g (vs ++ cap.toList).toArray) w := by
      have h1 : xs.map a.eval = vs := hF.evs ha
      simp only [execOp, resolve, hF.ev hf, Deferred.ofValue, Sem.run_bind, Sem.run_pure, Result.andThen_ok, invoke, List.map_toArray, h1]
      rw [hb.run]
      simp
    unfold Oper.wp
    rw [hrun]
    refine (hs w (fun H hH => hi.g hS H hH)).mono fun e w' he => ?_
    cases e with
    | returned v =>
      obtain ⟨h1, H, h2, h3, h4⟩ := he
      exact ⟨ims, H :: L, _, .inr (fun _ u hu => hu.wl (.cons _ slr9)), hF.put (by simpa [Nat.blt_eq, Cx.m] using hlt),
        hS.push h1 h2 h3.1, h v H ⟨fun b hb => Nat.le_trans hS.size (h3.1 b hb), h3.2⟩ h4⟩
    | panicked c => exact he
    | outgrown => exact he.elim

/-! Fixed memory that is put together in a loop. -/
class GotI (H : Hp) (ims : List Hp) : Prop where
  g : ∀ {B : World} {X : Side} {L : List Hp} {w : World}, St B X ims L w → Agree H w ∧ ∀ K ∈ L, Apart K H
  d : ∀ b, H b ≠ none → ∃ K ∈ ims, K b ≠ none
instance (ims : List Hp) : GotI noHp ims := ⟨fun _ => ⟨agree_no _, fun _ _ _ => .inr rfl⟩, fun _ h => absurd rfl h⟩
instance (H K : Hp) (ims : List Hp) [h : GotI H ims] [k : GotI K ims] : GotI (orHp H K) ims :=
  ⟨fun s => ⟨agree_or (h.g s).1 (k.g s).1, fun M hM b => by
    rcases (h.g s).2 M hM b with h1 | h1
    · exact .inl h1
    · rcases (k.g s).2 M hM b with h2 | h2
      · exact .inl h2
      · exact .inr (by simp [orHp, h1, h2])⟩, fun b hb => by
    cases hh : H b with
    | some o => exact h.d b (by rw [hh]; simp)
    | none => exact k.d b (by simpa [orHp, hh] using hb)⟩
instance (H : Hp) (ims : List Hp) [i : In H ims] : GotI H ims := ⟨fun s => ⟨s.im H i.mem, fun K hK => (s.own K hK).2.2 H i.mem⟩, fun _ hb => ⟨H, i.mem, hb⟩⟩
theorem kc_loopK {C : Cx} {Q : Post} {ims L : List Hp} {G : Env} {A : Type} {body : Code} (J : A → Prop) (mu : A → Nat) (Kf : A → Hp) (Lf : A → List Hp) (Gf : A → Env) (x0 : A) {Gx : Env} (hx : Pick G Gx) (hg : Pick G (Gf x0)) [gi : GotI (Kf x0) ims] (hl : L = Lf x0) (h0 : J x0)
    (round : ∀ x, J x → KC C (Exit.then (fun a w => ∃ x', mu x' < mu x ∧ J x' ∧ Fit C.m (Gf x' ++ Gx) a ∧ St C.B C.X (Kf x' :: ims) (Lf x') w) Q) (Kf x :: ims) (Lf x) body (Gf x ++ Gx)) :
    KC C Q ims L (.loop body) G := by
  have h : KC C Q (Kf x0 :: ims) L (.loop body) G :=
    kc_loop J mu (fun x => [Kf x]) Lf Gf x0 (ims0 := ims) hx hg rfl hl h0 round
  intro a w hf hs
  exact h a w hf (hs.addIm (gi.g hs).1 (gi.g hs).2 gi.d)
theorem kq_roundK {C : Cx} {ims L : List Hp} {G : Env} {A : Type} {J : A → Prop} {mu : A → Nat} {Kf : A → Hp} {Lf : A → List Hp} {Gf : A → Env} {x : A} {Gx : Env} {ims0 L0 : List Hp} (x' : A)
    (hlt : mu x' < mu x) (hJ : J x') (hg : Pick G (Gf x')) (hx : Pick G Gx) (hl : L0 = Lf x') [gi : GotI (Kf x') ims] [hi : AllIn ims0 ims] (hs : List.Sublist L0 L) :
    KQ C ims L G (fun a w => ∃ x', mu x' < mu x ∧ J x' ∧ Fit C.m (Gf x' ++ Gx) a ∧ St C.B C.X (Kf x' :: ims0) (Lf x') w) :=
  fun _ _ hf hs' => ⟨x', hlt, hJ, (hg.app hx).fit hf, by
    subst hl
    have h1 : St C.B C.X (Kf x' :: ims) L _ := hs'.addIm (gi.g hs').1 (gi.g hs').2 gi.d
    have i2 : AllIn (Kf x' :: ims0) (Kf x' :: ims) := ⟨fun a ha => by
      cases ha with
      | head => exact .head _
      | tail _ ha => exact .tail _ (hi.all a ha)⟩
    exact h1.weak (i := i2) hs⟩
/-! Bits. -/
def iand (x y : Int) : Int := bits .and .i64 x y
def ior (x y : Int) : Int := bits .or .i64 x y
def iandNot (x y : Int) : Int := bits .andNot .i64 x y
def ishl (x y : Int) : Int := IntKind.i64.wrap (x * 2 ^ min y.toNat 64)
def ishr (x y : Int) : Int := x.fdiv (2 ^ min y.toNat 64)
section ops
variable {C : Cx} {dr : Bool} {ops : Array Oper} {Q : Post} {ims L : List Hp} {G : Env} {fl : List Bool} {rest : List Oper}
  {d ty : Nat} {pos : String} {af : Array Edge} {x y : Operand} {T T2 : Nat} {m k : Int} (hx : ev G x = some (.int .i64 m)) (hy : ev G y = some (.int .i64 k))
include hx hy
theorem kl_and (h : KL C dr ops Q ims L fl.tail rest ((d, .int .i64 (iand m k)) :: G)) (hlt : Nat.blt d C.n = true := by rfl) :
    KL C dr ops Q ims L fl (⟨some d, .binOp .and T x y T2, ty, pos, af, none⟩ :: rest) G := kl_y (fun a w hf _ => by simp [go_sem, hf _ _ hx, hf _ _ hy, iand]) h hlt
theorem kl_or (h : KL C dr ops Q ims L fl.tail rest ((d, .int .i64 (ior m k)) :: G)) (hlt : Nat.blt d C.n = true := by rfl) :
    KL C dr ops Q ims L fl (⟨some d, .binOp .or T x y T2, ty, pos, af, none⟩ :: rest) G := kl_y (fun a w hf _ => by simp [go_sem, hf _ _ hx, hf _ _ hy, ior]) h hlt
theorem kl_shl (h0 : 0 ≤ k) (h : KL C dr ops Q ims L fl.tail rest ((d, .int .i64 (ishl m k)) :: G)) (hlt : Nat.blt d C.n = true := by rfl) :
    KL C dr ops Q ims L fl (⟨some d, .binOp .shl T x y T2, ty, pos, af, none⟩ :: rest) G := kl_y (fun a w hf _ => by
      have : ¬ k < 0 := by omega
      simp [go_sem, hf _ _ hx, hf _ _ hy, ishl, Op.shift, this, IntKind.bits]) h hlt
theorem kl_shr (h0 : 0 ≤ k) (h : KL C dr ops Q ims L fl.tail rest ((d, .int .i64 (ishr m k)) :: G)) (hlt : Nat.blt d C.n = true := by rfl) :
    KL C dr ops Q ims L fl (⟨some d, .binOp .shr T x y T2, ty, pos, af, none⟩ :: rest) G := kl_y (fun a w hf _ => by
      have : ¬ k < 0 := by omega
      simp [go_sem, hf _ _ hx, hf _ _ hy, ishr, Op.shift, this, IntKind.bits]) h hlt
end ops
/-- A list of integers that is written out and owned. -/
theorem kl_bsI {C : Cx} {dr : Bool} {ops : Array Oper} {Q : Post} {ims L : List Hp} {G : Env} {fl : List Bool} {rest : List Oper} {d ty : Nat} {pos : String} {af : Array Edge}
    {T E by' n : Nat} {z : Value} [hT : IsSlice C.P T E 1 by' z] {ps : List (Nat × Operand)} {pv : List (Nat × Value)} (xs : List Int)
    (hp : evp G ps = some pv) (he : pv = enumV 0 (xs.map (Value.int .i64))) (hn : Nat.beq (xs.map (Value.int .i64)).length n = true) (hm : n ≤ 1000)
    (h : ∀ v H, Fr C.B H → OwnL E 1 H noHp IntV v xs → KL C dr ops Q ims (H :: L) fl.tail rest ((d, v) :: G)) (hlt : Nat.blt d C.n = true := by rfl) (hfl : fl.headD false = false := by rfl) :
    KL C dr ops Q ims L fl (⟨some d, .buildSlice T n ps.toArray, ty, pos, af, none⟩ :: rest) G :=
  kl_bsO hp he hn hm (fun u hu => by obtain ⟨x, _, rfl⟩ := List.mem_map.1 hu; rfl) (fun v H f o => h v H f ⟨xs.map (Value.int .i64), by
    have := Nat.eq_of_beq_eq_true hn; simp only [List.length_map] at this; rw [this]; exact o, fun i hi => by
    simp only [IntV, Nat.mul_one]
    rw [List.take_one, List.head?_drop]; simp [hi]⟩) hlt hfl
end
section
/-- What is left of a drawn region: the operations that are not in 'listed', in whatever order. LS: what is owned and read by operations that may be taken early; fx: the operations that come behind all of these. -/
def KT (C : Cx) (ops : Array Oper) (Q : Post) (fx : Nat → Bool) (LS : List Hp) (fuel : Nat) (listed : Array Bool) (ims L : List Hp) (G : Env) : Prop :=
  ∀ a w, Fit C.m G a → St C.B C.X ims L w → Dc .any ops listed → anyG C.P .any ops Q (St C.B C.X (LS ++ ims) []) fx fuel listed a w
/-- Behind an operation that may be taken early. -/
def QP (C : Cx) (ops : Array Oper) (Q : Post) (fx : Nat → Bool) (LS : List Hp) (fuel : Nat) (listed : Array Bool) (ims L : List Hp) : Post :=
  fun e a w => e = .normal ∧ (St C.B C.X ims L w → Dc .any ops listed → anyG C.P .any ops Q (St C.B C.X (LS ++ ims) []) fx fuel listed a w)
/-- Behind another one. -/
def QA (C : Cx) (ops : Array Oper) (Q : Post) (fx : Nat → Bool) (LS : List Hp) (k fuel : Nat) (listed : Array Bool) (ims : List Hp) : Post :=
  fun e a w => e = .normal ∧ (fx k = true ∨ St C.B C.X (LS ++ ims) [] w) ∧ (Dc .any ops listed → anyG C.P .any ops Q (St C.B C.X (LS ++ ims) []) fx fuel listed a w)
theorem St.low {B : World} {X : Side} {ims L LS : List Hp} {w : World} (h : St B X ims L w) (s : LS.Sublist L) : St B X (LS ++ ims) [] w :=
  h.still (fun b hb => by
      rcases hb with ⟨_, hb, _⟩ | ⟨hB, K, hK, hb⟩
      · cases hb
      · rcases List.mem_append.1 hK with hK | hK
        · exact .inl ⟨K, s.mem hK, hb⟩
        · exact .inr ⟨hB, K, hK, hb⟩)
    (fun K hK => by
      rcases List.mem_append.1 hK with hK | hK
      · exact (h.own K (s.mem hK)).1
      · exact h.im K hK)
    (fun _ h => by cases h) List.Pairwise.nil
theorem allIn_low {LS l m : List Hp} (i : AllIn l m) : AllIn (LS ++ l) (LS ++ m) := ⟨fun a ha => by
  rcases List.mem_append.1 ha with h | h
  · exact List.mem_append_left _ h
  · exact List.mem_append_right _ (i.all a h)⟩
theorem kc_tree {P : Program} {n : Nat} {B : World} {X : Side} {df : List Deferred} {R : Option Nat} {Q : Post} {ims L : List Hp} {G : Env} {id : Nat} {l : List Oper} (fx : Nat → Bool) (LS : List Hp) (hm : P.follows .mixedOrders = true)
    (h : KT ⟨P, n, B, X, false, df, R⟩ l.toArray (Only Q) fx LS l.length (Array.replicate l.length false) ims L G) (hd : noDef l = true := by rfl) : KC ⟨P, n, B, X, false, df, R⟩ Q ims L (.region id l.toArray true) G := fun a w hf hs => by
  refine wpIn_region_anyL hm hd (wpAny_of_anyG (S := St B X (LS ++ ims) []) (fx := fx) _ _ _ _ ?_)
  have := h a _ hf hs.drew (Dc.none _ _ _)
  simpa using this
section laws
variable {C : Cx} {ops : Array Oper} {Q : Post} {fx : Nat → Bool} {LS : List Hp} {fuel : Nat} {listed : Array Bool} {ims L : List Hp} {G : Env}
theorem qq {imsq : List Hp} (h : KT C ops Q fx LS fuel listed ims L G) : KQ C imsq [] G (QP C ops Q fx LS fuel listed ims L .normal) :=
  fun a w hf _ => ⟨rfl, fun hs => h a w hf hs⟩
theorem qa {k : Nat} {ims0 : List Hp} [i : AllIn ims0 ims] (hl : LS.Sublist L) (h : KT C ops Q fx LS fuel listed ims L G) : KQ C ims L G (QA C ops Q fx LS k fuel listed ims0 .normal) :=
  fun a w hf hs => ⟨rfl, .inr ((hs.low hl).ims (i := allIn_low i)), fun hd => anyG_mono (fun _ hu => St.ims (i := allIn_low i) hu) _ _ _ _ (h a w hf hs hd)⟩
theorem qx {k : Nat} {ims0 : List Hp} [i : AllIn ims0 ims] (hx : fx k = true) (h : KT C ops Q fx LS fuel listed ims L G) : KQ C ims L G (QA C ops Q fx LS k fuel listed ims0 .normal) :=
  fun a w hf hs => ⟨rfl, .inl hx, fun hd => anyG_mono (fun _ hu => St.ims (i := allIn_low i) hu) _ _ _ _ (h a w hf hs hd)⟩
theorem kt_q (k : Nat) {o : Oper} (hl : LS.Sublist L) (ho : ops[k]? = some o)
    (hB : (Region.noSelect ops && (Region.ready .any ops listed).contains k && Region.free .any ops listed k && (List.range ops.size).all (fun j => !(fx j) || listed.getD j false || waitsB .any ops ops.size j k)) = true)
    (h : KL C true ops (QP C ops (Only Q) fx LS fuel (listed.setIfInBounds k true) ims L) (LS ++ ims) [] [true] [o] G) : KT C ops (Only Q) fx LS (fuel + 1) listed ims L G := fun a w hf hs hdc => by
  have h1 := h a w hf (hs.low hl)
  have hW : C.W [] = [] := by unfold Cx.W; cases C.lo <;> rfl
  rw [hW] at h1
  simp only [Bool.and_eq_true, List.all_eq_true, List.mem_range, Bool.or_eq_true, Bool.not_eq_true'] at hB
  obtain ⟨⟨⟨hsel, hr⟩, hfree⟩, hwait⟩ := hB
  have hr' : k ∈ Region.ready .any ops listed := by simpa using hr
  have main : ∀ v, YieldsIf C.P ops (St C.B C.X (LS ++ ims) []) o v a → anyG C.P .any ops (Only Q) (St C.B C.X (LS ++ ims) []) fx fuel (listed.setIfInBounds k true) (a.put o.dst v) w →
      anyG C.P .any ops (Only Q) (St C.B C.X (LS ++ ims) []) fx (fuel + 1) listed a w := fun v hy hg =>
    anyG_first ho (Region.noSelect_spec hsel) (fun c a w hq => hq.elim) fuel listed a w (fun j hj hfj => by
      rcases hwait j hj with (h2 | h2) | h2
      · rw [hfj] at h2; cases h2
      · exact .inl h2
      · exact .inr h2) hdc (Region.free_spec ho hfree) hr' hy (hs.low hl) hg
  unfold wpSeq at h1
  split at h1
  · rename_i hw
    rcases h1 with ⟨v, hv, h2⟩ | ⟨hn, _⟩
    · exact main v (.inl ⟨hw, hv⟩) (h2.2 hs (hdc.set hr'))
    · cases hn rfl
  · rename_i hw
    exact main undef (.inr ⟨by simpa using hw, rfl⟩) (h1.2 hs (hdc.set hr'))
theorem wpOp_of {k : Nat} {o : Oper} (ho : ops[k]? = some o) {fuel : Nat} {listed : Array Bool} (hdc : Dc .any ops listed) (h : KL C true ops (QA C ops Q fx LS k fuel listed ims) ims L [false] [o] G) {a : Act} {w : World} (hf : Fit C.m G a) (hs : St C.B C.X ims L w) :
    wpOp C.P ops Q k (fun a' w' => (fx k = true ∨ St C.B C.X (LS ++ ims) [] w') ∧ anyG C.P .any ops Q (St C.B C.X (LS ++ ims) []) fx fuel listed a' w') a w := by
  have h1 := h a w hf hs
  unfold wpOp
  rw [ho]
  simp only
  unfold wpSeq at h1
  split at h1
  · rename_i hw
    rw [if_pos hw]
    left
    rcases h1 with ⟨v, hv, h2⟩ | ⟨_, h2⟩
    · unfold Oper.wp
      rw [hv w hs.w]
      exact ⟨h2.2.1, h2.2.2 hdc⟩
    · refine oper_wp_noPanic (fun a' w' h' => ?_) h2
      obtain ⟨S2, _, h3⟩ := h'
      exact ⟨h3.2.1, h3.2.2 hdc⟩
  · rename_i hw
    rw [if_neg hw]
    exact ⟨h1.2.1, h1.2.2 hdc⟩
theorem kt_a (k : Nat) {o : Oper} (ho : ops[k]? = some o) (hB : (Region.ready .any ops listed == [k]) = true)
    (h : KL C true ops (QA C ops Q fx LS k fuel (listed.setIfInBounds k true) ims) ims L [false] [o] G) : KT C ops Q fx LS (fuel + 1) listed ims L G := fun a w hf hs hdc => by
  have hr : Region.ready .any ops listed = [k] := by simpa using hB
  refine ⟨fun h' => absurd (hr ▸ h') (by simp), fun i hi => ?_⟩
  have hd2 := hdc.set hi
  rw [hr] at hi
  simp only [List.mem_singleton] at hi
  subst hi
  exact wpOp_of ho hd2 h hf hs
theorem kt_b (k1 k2 : Nat) {o1 o2 : Oper} (ho1 : ops[k1]? = some o1) (ho2 : ops[k2]? = some o2) (hB : (Region.ready .any ops listed == [k1, k2]) = true)
    (h1 : KL C true ops (QA C ops Q fx LS k1 fuel (listed.setIfInBounds k1 true) ims) ims L [false] [o1] G)
    (h2 : KL C true ops (QA C ops Q fx LS k2 fuel (listed.setIfInBounds k2 true) ims) ims L [false] [o2] G) : KT C ops Q fx LS (fuel + 1) listed ims L G := fun a w hf hs hdc => by
  have hr : Region.ready .any ops listed = [k1, k2] := by simpa using hB
  refine ⟨fun h' => absurd (hr ▸ h') (by simp), fun i hi => ?_⟩
  have hd2 := hdc.set hi
  rw [hr] at hi
  simp only [List.mem_cons, List.not_mem_nil, or_false] at hi
  rcases hi with rfl | rfl
  · exact wpOp_of ho1 hd2 h1 hf hs
  · exact wpOp_of ho2 hd2 h2 hf hs
theorem kt_end (hB : (Region.ready .any ops listed == []) = true) (h : KQ C ims L G (Q .normal)) : KT C ops Q fx LS 0 listed ims L G :=
  fun a w hf hs _ => ⟨by simpa using hB, h a w hf hs⟩
end laws
instance {α : Type} (a : α) (l m : List α) [h : In a l] : In a (l ++ m) := ⟨List.mem_append_left _ h.mem⟩
instance (priority := low) {α : Type} (a : α) (l m : List α) [h : In a m] : In a (l ++ m) := ⟨List.mem_append_right _ h.mem⟩
theorem at_box {b T off : Nat} {cs : List Value} {fz : Nat × Nat} : At (sing b (.cells cs.toArray T fz)) (.pointer (some ⟨b, off, none⟩)) (cs.drop off) := by
  have h : At (sing b (.cells cs.toArray T fz)) (.pointer (some ⟨b, 0, none⟩)) cs := At.sing (cs := cs.toArray)
  simpa using h.drop off
section early
variable {C : Cx} {dr : Bool} {ops : Array Oper} {Q : Post} {ims L : List Hp} {G : Env} {fl : List Bool} {rest : List Oper} {d ty : Nat} {pos : String} {af : Array Edge}
theorem kl_ldOe {E k n j : Nat} {H : Hp} {v p u : Value} {cs : List Value} {x : Operand} {T : Nat} [hT : OneC C.P T] (hx : ev G x = some p) (hp : PtrO v p j) (hv : OwnS E k H v n cs) [hi : In H ims] (hc : cs[j]? = some u)
    (h : KL C dr ops Q ims L fl.tail rest ((d, u) :: G)) (hlt : Nat.blt d C.n = true := by rfl) : KL C dr ops Q ims L fl (⟨some d, .load T x, ty, pos, af, none⟩ :: rest) G :=
  kl_y (fun r w hr hs => by
    obtain ⟨b, cur, rfl, rfl, hcur⟩ := hv.cell hp hc
    have hA := hs.im (sing b (.cells cur E (0, 0))) hi.mem b _ (sing_self _ _)
    have hcell : w.cell? ⟨b, j, none⟩ = some u := by simp [World.cell?, hA, hcur]
    simp [go_sem, hr _ _ hx, Instr.loadAt, loadVar, OneC.run, hcell]) h hlt
theorem kl_ldLIe {E i : Nat} {H K : Hp} {v p : Value} {xs : List Int} {x : Operand} {T : Nat} [hT : OneC C.P T] (hx : ev G x = some p) (hp : PtrL 1 v p i) (hv : OwnL E 1 H K IntV v xs) [hi : In H ims] (hc : i < xs.length)
    (h : KL C dr ops Q ims L fl.tail rest ((d, .int .i64 (xs.getD i 0)) :: G)) (hlt : Nat.blt d C.n = true := by rfl) : KL C dr ops Q ims L fl (⟨some d, .load T x, ty, pos, af, none⟩ :: rest) G := by
  obtain ⟨cs, u, h1, h2, h3⟩ := hv.at1 hc
  unfold IntV at h3
  simp at h3
  subst h3
  refine kl_ldOe hx hp h1 (by simpa using h2) ?_ hlt
  simpa [List.getD, hc] using h
end early
/-- A test that is written out. -/
theorem kc_condF {C : Cx} {Q : Post} {ims L : List Hp} {G : Env} {x y : Code} (h : KC C Q ims L y G) : KC C Q ims L (.cond (.const (.bool false)) x y) G := fun a w hf hs => by
  have he : a.eval (.const (.bool false)) = .bool false := rfl
  exact wpIn_cond he (h a w hf hs)
theorem kl_addN {C : Cx} {dr : Bool} {ops : Array Oper} {Q : Post} {ims L : List Hp} {G : Env} {fl : List Bool} {rest : List Oper} {d ty : Nat} {pos : String} {af : Array Edge} {x y : Operand} {T T2 m k : Nat}
    (hx : ev G x = some (.int .i64 (m : Int))) (hy : ev G y = some (.int .i64 (k : Int))) (hb : m + k ≤ 9223372036854775807) (h : KL C dr ops Q ims L fl.tail rest ((d, .int .i64 ((m + k : Nat) : Int)) :: G)) (hlt : Nat.blt d C.n = true := by rfl) :
    KL C dr ops Q ims L fl (⟨some d, .binOp .add T x y T2, ty, pos, af, none⟩ :: rest) G :=
  ad9 hx hy (by omega) (by rw [← Int.natCast_add]; exact h) hlt
end
end Go.Proofs.YtolndgeihijlbaaGreat
