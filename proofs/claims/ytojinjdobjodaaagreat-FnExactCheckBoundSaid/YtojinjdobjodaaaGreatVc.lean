/- The base of the walks: judgements over frames of which some slots are known, heaplets, and one law for each operation. Conditions: none. -/
import Derived.Test.YtojinjdobjodaaaGreatChecked
import Derived.OrdersHeld
import Derived.Tactics
import Derived.Deep.RegionHeld3
import Derived.OrdersIn
import Derived.TacticsIn
import Derived.RangeFuncKeeps
import Derived.RangeFuncLeaves
import Derived.IntWalk
import Derived.Laws.AppendOwn
import Derived.Laws.MakeOwn
import Derived.Laws.CopyRow
import Derived.Laws.Small
namespace Go.Proofs.YtojinjdobjodaaaGreat
open Go
set_option linter.unusedSimpArgs false
set_option linter.unusedVariables false

/-! ### Frames: what is known of the temporaries -/
abbrev Env := List (Nat × Value)
def look (s : Nat) : Env → Option Value
  | [] => none
  | (k, v) :: r => bif Nat.beq s k then some v else look s r

/-- n: the number of slots, and the calls that are deferred. -/
structure Fit (n : Nat × List Deferred) (G : Env) (a : Act) : Prop where
  defers : a.defers = n.2
  size : a.tmps.size = n.1
  get : ∀ s v, look s G = some v → s < n.1 ∧ a.tmps.getD s undef = v

theorem Fit.put {n : Nat × List Deferred} {G : Env} {a : Act} {d : Nat} {v : Value} (h : Fit n G a) (hd : d < n.1) : Fit n ((d, v) :: G) (a.put (some d) v) := by
  refine ⟨h.defers, by simp [Act.put, h.size], fun s u hs => ?_⟩
  simp only [look] at hs
  by_cases e : s = d
  · subst e
    simp at hs
    subst hs
    refine ⟨hd, ?_⟩
    simp [Act.put, Array.getD, h.size, hd]
  · have : Nat.beq s d = false := by
      cases hb : Nat.beq s d
      · rfl
      · exact absurd (Nat.eq_of_beq_eq_true hb) e
    simp only [this, cond_false] at hs
    obtain ⟨h1, h2⟩ := h.get s u hs
    refine ⟨h1, ?_⟩
    rw [← h2]
    have e' : d ≠ s := fun x => e x.symm
    simp [Act.put, Array.getD, h.size, h1, e']

theorem Fit.putNone {n : Nat × List Deferred} {G : Env} {a : Act} {v : Value} (h : Fit n G a) : Fit n G (a.put none v) := h

def ev (G : Env) : Operand → Option Value
  | .tmp t => look t G
  | .const v => some v
  | .global g => some (.pointer (some ⟨g, 0, none⟩))
  | .func f => some (.func (.func f) #[] #[])

theorem Fit.ev {n : Nat × List Deferred} {G : Env} {a : Act} (h : Fit n G a) {x : Operand} {v : Value} (hx : ev G x = some v) : a.eval x = v := by
  cases x with
  | tmp t => exact (h.get t v hx).2
  | const u => simpa [Proofs.YtojinjdobjodaaaGreat.ev, Act.eval] using hx
  | global g => simpa [Proofs.YtojinjdobjodaaaGreat.ev, Act.eval] using hx
  | func f => simpa [Proofs.YtojinjdobjodaaaGreat.ev, Act.eval] using hx

def evs (G : Env) : List Operand → Option (List Value)
  | [] => some []
  | x :: r => match ev G x, evs G r with
    | some v, some vs => some (v :: vs)
    | _, _ => none

theorem Fit.evs {n : Nat × List Deferred} {G : Env} {a : Act} (h : Fit n G a) : ∀ {xs : List Operand} {vs : List Value}, evs G xs = some vs → xs.map a.eval = vs
  | [], vs, hx => by simp [Proofs.YtojinjdobjodaaaGreat.evs] at hx; simp [hx]
  | x :: r, vs, hx => by
    simp only [Proofs.YtojinjdobjodaaaGreat.evs] at hx
    split at hx
    · rename_i v ws h1 h2
      simp at hx
      subst hx
      simp [h.ev h1, h.evs h2]
    · cases hx

/-- What is kept of a frame: the slots that are named, each with its value. -/
inductive Pick (G : Env) : Env → Prop
  | nil : Pick G []
  | cons {k : Nat} {v : Value} {G' : Env} (h : look k G = some v) (t : Pick G G') : Pick G ((k, v) :: G')

theorem Pick.look {G : Env} : ∀ {G' : Env}, Pick G G' → ∀ s v, look s G' = some v → Proofs.YtojinjdobjodaaaGreat.look s G = some v
  | _, .nil, s, v, h => by simp [Proofs.YtojinjdobjodaaaGreat.look] at h
  | _, .cons (k := k) hk t, s, v, h => by
    simp only [Proofs.YtojinjdobjodaaaGreat.look] at h
    by_cases e : Nat.beq s k = true
    · have := Nat.eq_of_beq_eq_true e
      subst this
      simp at h
      subst h
      exact hk
    · simp only [Bool.not_eq_true] at e
      simp only [e, cond_false] at h
      exact t.look s v h

theorem Pick.fit {n : Nat × List Deferred} {G G' : Env} {a : Act} (hp : Pick G G') (h : Fit n G a) : Fit n G' a :=
  ⟨h.defers, h.size, fun s v hs => h.get s v (hp.look s v hs)⟩

theorem Pick.app {G : Env} : ∀ {A B : Env}, Pick G A → Pick G B → Pick G (A ++ B)
  | _, _, .nil, hb => hb
  | _, _, .cons h t, hb => .cons h (t.app hb)

/-! ### Heaplets and the state of a walk -/
abbrev Hp := Nat → Option Obj
def sing (b : Nat) (o : Obj) : Hp := fun b' => if b' = b then some o else none
@[simp] theorem sing_self (b : Nat) (o : Obj) : sing b o b = some o := by simp [sing]
theorem sing_some {b b' : Nat} {o o' : Obj} (h : sing b o b' = some o') : b' = b ∧ o' = o := by
  unfold sing at h
  split at h
  · rename_i e; simp at h; exact ⟨e, h.symm⟩
  · cases h

def Agree (H : Hp) (w : World) : Prop := ∀ b o, H b = some o → w.heap[b]? = some o
theorem Agree.lt {H : Hp} {w : World} (h : Agree H w) {b : Nat} {o : Obj} (hb : H b = some o) : b < w.heap.size := by
  have := h b o hb
  exact (Array.getElem?_eq_some_iff.1 this).1

def NoX : Nat → Prop := fun _ => False
/-- The streams are as they were. -/
def Io (u v : World) : Prop := v.os = u.os ∧ v.output = u.output
theorem Io.refl (w : World) : Io w w := ⟨rfl, rfl⟩
theorem Io.trans {u v w : World} (h : Io u v) (k : Io v w) : Io u w := ⟨k.1.trans h.1, k.2.trans h.2⟩
/-- Blocks below the old size are as they were, but for those of X. -/
structure Ext (X : Nat → Prop) (w w' : World) : Prop where
  size : w.heap.size ≤ w'.heap.size
  same : ∀ b, b < w.heap.size → ¬ X b → w'.heap[b]? = w.heap[b]?
  io : Io w w'
theorem Ext.refl (X : Nat → Prop) (w : World) : Ext X w w := ⟨Nat.le_refl _, fun _ _ _ => rfl, Io.refl _⟩
theorem Ext.trans {X : Nat → Prop} {u v w : World} (h : Ext X u v) (k : Ext X v w) : Ext X u w :=
  ⟨Nat.le_trans h.size k.size, fun b hb hx => (k.same b (Nat.lt_of_lt_of_le hb h.size) hx).trans (h.same b hb hx), h.io.trans k.io⟩
theorem Ext.agree {w w' : World} {H : Hp} (h : Ext NoX w w') (hA : Agree H w) : Agree H w' :=
  fun b o hb => (h.same b (hA.lt hb) (fun x => x)).trans (hA b o hb)
theorem Ext.mono {X Y : Nat → Prop} {u v : World} (h : Ext X u v) (hx : ∀ b, b < u.heap.size → X b → Y b) : Ext Y u v :=
  ⟨h.size, fun b hb hy => h.same b hb (fun x => hy (hx b hb x)), h.io⟩

class In {α : Type} (a : α) (l : List α) : Prop where mem : a ∈ l
instance {α : Type} (a : α) (l : List α) : In a (a :: l) := ⟨.head _⟩
instance {α : Type} (a b : α) (l : List α) [h : In a l] : In a (b :: l) := ⟨.tail _ h.mem⟩
class AllIn {α : Type} (l m : List α) : Prop where all : ∀ a ∈ l, a ∈ m
instance {α : Type} (m : List α) : AllIn [] m := ⟨fun _ h => by cases h⟩
instance {α : Type} (a : α) (l m : List α) [h : In a m] [t : AllIn l m] : AllIn (a :: l) m :=
  ⟨fun x hx => by cases hx with | head => exact h.mem | tail _ h' => exact t.all x h'⟩
instance (priority := low) {α : Type} (l : List α) : AllIn l l := ⟨fun _ h => h⟩
theorem allIn_refl {α : Type} (l : List α) : AllIn l l := ⟨fun _ h => h⟩

def Apart (H K : Hp) : Prop := ∀ b, H b = none ∨ K b = none

/-- Whom a call works for: x: the blocks of the caller's that it may write; j: what it carries for the caller, a word on the world that holds whatever the call does to what is its own (D). -/
structure Side where
  m : Nat
  x : Nat → Prop
  j : (Nat → Prop) → World → Prop
  ok : ∀ {D D' : Nat → Prop} {w w' : World}, j D w → w.heap.size ≤ w'.heap.size → (∀ b, b < w.heap.size → ¬ D b → w'.heap[b]? = w.heap[b]?) → Io w w' → (∀ b, D' b → (D b ∨ w.heap.size ≤ b) ∧ b < w'.heap.size) → j D' w'
def Side.of (x : Nat → Prop) : Side := ⟨0, x, fun _ _ => True, fun _ _ _ _ _ => trivial⟩
/-- The same, with a size that the heap has at least. -/
def Side.mark (X : Side) (m : Nat) : Side := { X with m := m }
def noS : Side := .of NoX
/-- What is the call's own: what it may write, and what it has made. -/
def dm (B : World) (ims L : List Hp) : Nat → Prop := fun b => (∃ H ∈ L, H b ≠ none) ∨ (B.heap.size ≤ b ∧ ∃ H ∈ ims, H b ≠ none)
/-- B: the world when the call began. X: the blocks of the caller's that the call may write. ims: heaplets that nobody writes. L: heaplets that the call owns, apart from each other and from ims. -/
structure St (B : World) (X : Side) (ims : List Hp) (L : List Hp) (w : World) : Prop where
  size : B.heap.size ≤ w.heap.size
  ext : ∀ b, b < B.heap.size → ¬ X.x b → w.heap[b]? = B.heap[b]?
  im : ∀ H ∈ ims, Agree H w
  own : ∀ H ∈ L, Agree H w ∧ (∀ b, H b ≠ none → B.heap.size ≤ b ∨ X.x b) ∧ ∀ I ∈ ims, Apart H I
  nd : L.Pairwise Apart
  io : Io B w
  j : X.j (dm B ims L) w
  mrk : X.m ≤ w.heap.size

section states
variable {B : World} {X : Side} {ims ims' L L' : List Hp} {H : Hp} {w w' : World}
/-- What is the call's own is there. -/
theorem dm_lt (im : ∀ H ∈ ims, Agree H w) (own : ∀ H ∈ L, Agree H w) {b : Nat} (hb : dm B ims L b) : b < w.heap.size := by
  rcases hb with ⟨H, hH, hb⟩ | ⟨_, H, hH, hb⟩
  · cases hh : H b with
    | none => exact absurd hh hb
    | some o => exact (own H hH).lt hh
  · cases hh : H b with
    | none => exact absurd hh hb
    | some o => exact (im H hH).lt hh
theorem St.turn (h : St B X ims L w) (hs : w.heap.size ≤ w'.heap.size) (he : ∀ b, b < w.heap.size → ¬ dm B ims L b → w'.heap[b]? = w.heap[b]?) (hio : Io w w') (hd : ∀ b, dm B ims' L' b → dm B ims L b ∨ w.heap.size ≤ b)
    (ext : ∀ b, b < B.heap.size → ¬ X.x b → w'.heap[b]? = B.heap[b]?) (im : ∀ H ∈ ims', Agree H w')
    (own : ∀ H ∈ L', Agree H w' ∧ (∀ b, H b ≠ none → B.heap.size ≤ b ∨ X.x b) ∧ ∀ I ∈ ims', Apart H I) (nd : L'.Pairwise Apart) : St B X ims' L' w' :=
  ⟨Nat.le_trans h.size hs, ext, im, own, nd, h.io.trans hio, X.ok h.j hs he hio (fun b hb => ⟨hd b hb, dm_lt im (fun H hH => (own H hH).1) hb⟩), Nat.le_trans h.mrk hs⟩
theorem St.still (h : St B X ims L w) (hd : ∀ b, dm B ims' L' b → dm B ims L b) (im : ∀ H ∈ ims', Agree H w)
    (own : ∀ H ∈ L', Agree H w ∧ (∀ b, H b ≠ none → B.heap.size ≤ b ∨ X.x b) ∧ ∀ I ∈ ims', Apart H I) (nd : L'.Pairwise Apart) : St B X ims' L' w :=
  h.turn (Nat.le_refl _) (fun _ _ _ => rfl) (Io.refl _) (fun b hb => .inl (hd b hb)) h.ext im own nd
theorem St.init (h : ∀ H ∈ ims, Agree H w) : St w noS ims [] w :=
  ⟨Nat.le_refl _, fun _ _ _ => rfl, h, fun _ h => (by cases h), List.Pairwise.nil, Io.refl _, trivial, Nat.zero_le _⟩
theorem St.toExt (h : St B X ims L w) : Ext X.x B w := ⟨h.size, h.ext, h.io⟩
theorem St.agL (h : St B X ims L w) [i : In H L] : Agree H w := (h.own H i.mem).1

/-- A callee that writes nothing of what is there. -/
theorem St.call (h : St B X ims L w) (e : Ext NoX w w') : St B X ims L w' :=
  h.turn e.size (fun b hb _ => e.same b hb (fun x => x)) e.io (fun _ hb => .inl hb) (fun b hb hx => (e.same b (Nat.lt_of_lt_of_le hb h.size) (fun x => x)).trans (h.ext b hb hx))
   (fun H hH => e.agree (h.im H hH)) (fun H hH => ⟨e.agree (h.own H hH).1, (h.own H hH).2⟩) h.nd
/-- A fresh heaplet, owned. -/
theorem St.push (h : St B X ims L w) (e : Ext NoX w w') {H : Hp}
    (hA : Agree H w') (hf : ∀ b, H b ≠ none → w.heap.size ≤ b) : St B X ims (H :: L) w' := by
  have h' := h.call e
  have key : ∀ K : Hp, Agree K w → Apart H K := fun K hK b => by
    by_cases hb : H b = none
    · exact .inl hb
    · right
      cases hk : K b with
      | none => rfl
      | some o => exact absurd (hf b hb) (Nat.not_le.2 (hK.lt hk))
  refine h.turn e.size (fun b hb _ => e.same b hb (fun x => x)) e.io (fun b hb => ?_) h'.ext h'.im (fun K hK => ?_) ?_
  · rcases hb with ⟨K, hK, hb⟩ | hb
    · cases hK with
      | head => exact .inr (hf b hb)
      | tail _ hK => exact .inl (.inl ⟨K, hK, hb⟩)
    · exact .inl (.inr hb)
  · cases hK with
    | head => exact ⟨hA, fun b hb => .inl (Nat.le_trans h.size (hf b hb)), fun I hI => key I (h.im I hI)⟩
    | tail _ hK => exact h'.own K hK
  · exact .cons (fun K hK => key K (h.own K hK).1) h.nd
/-- The first owned heaplet is written no more. -/
theorem St.freeze (h : St B X ims (H :: L) w) : St B X (H :: ims) L w :=
  h.still (fun b hb => by
      rcases hb with ⟨K, hK, hb⟩ | ⟨hB, K, hK, hb⟩
      · exact .inl ⟨K, .tail _ hK, hb⟩
      · cases hK with
        | head => exact .inl ⟨H, .head _, hb⟩
        | tail _ hK => exact .inr ⟨hB, K, hK, hb⟩)
    (fun K hK => by
      cases hK with
      | head => exact (h.own H (.head _)).1
      | tail _ hK => exact h.im K hK)
    (fun K hK => ⟨(h.own K (.tail _ hK)).1, (h.own K (.tail _ hK)).2.1, fun I hI => by
      cases hI with
      | head => exact fun b => ((List.pairwise_cons.1 h.nd).1 K hK b).symm
      | tail _ hI => exact (h.own K (.tail _ hK)).2.2 I hI⟩)
    (List.pairwise_cons.1 h.nd).2
theorem St.pushIm (h : St B X ims L w) (e : Ext NoX w w') {H : Hp}
    (hA : Agree H w') (hf : ∀ b, H b ≠ none → w.heap.size ≤ b) : St B X (H :: ims) L w' := (h.push e hA hf).freeze
theorem St.weak (h : St B X ims L w) [i : AllIn ims' ims] (s : L'.Sublist L) : St B X ims' L' w :=
  h.still (fun b hb => by
      rcases hb with ⟨K, hK, hb⟩ | ⟨hB, K, hK, hb⟩
      · exact .inl ⟨K, s.mem hK, hb⟩
      · exact .inr ⟨hB, K, i.all K hK, hb⟩)
    (fun H hH => h.im H (i.all H hH)) (fun H hH => ⟨(h.own H (s.mem hH)).1, (h.own H (s.mem hH)).2.1, fun I hI => (h.own H (s.mem hH)).2.2 I (i.all I hI)⟩) (h.nd.sublist s)
theorem St.dropL (h : St B X ims (H :: L) w) : St B X ims L w := h.weak (i := allIn_refl _) (.cons _ (List.Sublist.refl _))
theorem St.addIm (h : St B X ims L w) {H : Hp} (hA : Agree H w) (hd : ∀ K ∈ L, Apart K H) (hdm : ∀ b, H b ≠ none → ∃ K ∈ ims, K b ≠ none) : St B X (H :: ims) L w :=
  h.still (fun b hb => by
      rcases hb with hb | ⟨hB, K, hK, hb⟩
      · exact .inl hb
      · cases hK with
        | head => exact .inr ⟨hB, hdm b hb⟩
        | tail _ hK => exact .inr ⟨hB, K, hK, hb⟩)
    (fun K hK => by
      cases hK with
      | head => exact hA
      | tail _ hK => exact h.im K hK)
    (fun K hK => ⟨(h.own K hK).1, (h.own K hK).2.1, fun I hI => by
      cases hI with
      | head => exact hd K hK
      | tail _ hI => exact (h.own K hK).2.2 I hI⟩) h.nd
end states
theorem St.ims {B : World} {X : Side} {l l' L : List Hp} {w : World} (h : St B X l L w) [i : AllIn l' l] : St B X l' L w := h.weak (List.Sublist.refl _)
def orHp (H K : Hp) : Hp := fun b => (H b).or (K b)
theorem agree_or {H K : Hp} {w : World} (h : Agree H w) (k : Agree K w) : Agree (orHp H K) w := fun b o hb => by
  unfold orHp at hb
  cases hh : H b with
  | some x => rw [hh] at hb; simp at hb; subst hb; exact h b x hh
  | none => rw [hh] at hb; simp at hb; exact k b o hb

/-! ### The sequence of a region's operations -/
/-- dr: does the region draw its order; fl: which operations must leave the world alone (a missing entry: need not). S: what is known of the world. -/
def wpSeq (dr : Bool) (P : Program) (ops : Array Oper) (Q : Exit → Act → World → Prop) : (World → Prop) → List Bool → List Oper → Act → World → Prop
  | _, _, [], a, w => Q .normal a w
  | S, fl, o :: rest, a, w =>
    if Region.wanted o (yielded ops a.tmps) = true then
      (∃ v, (∀ w', S w' → (execOp a.eval o).run P w' = .ok (.value v) w') ∧ wpSeq dr P ops Q S fl.tail rest (a.put o.dst v) w) ∨
      ((dr = true → fl.headD false = false) ∧ o.wp P a w (fun a' w' => ∃ S2 : World → Prop, (rest = [] ∨ S2 w' ∧ (dr = true → ∀ u, S2 u → S u)) ∧ wpSeq dr P ops Q S2 fl.tail rest a' w') (fun _ _ _ => False))
    else wpSeq dr P ops Q S fl.tail rest (a.put o.dst undef) w

theorem wpSeq_false {P : Program} {ops : Array Oper} {Q : Exit → Act → World → Prop} {S S' : World → Prop} (hs : ∀ u, S' u → S u) : ∀ (fl : List Bool) (l : List Oper) (a : Act) (w : World),
    wpSeq false P ops Q S fl l a w → wpSeq false P ops Q S' fl l a w
  | _, [], _, _, h => h
  | fl, o :: rest, a, w, h => by
    unfold wpSeq at h ⊢
    split at h
    · rename_i hw
      rw [if_pos hw]
      rcases h with ⟨v, hv, h⟩ | ⟨h1, h2⟩
      · exact .inl ⟨v, fun w' hw' => hv w' (hs w' hw'), wpSeq_false hs fl.tail rest _ w h⟩
      · refine .inr ⟨h1, ?_⟩
        unfold Oper.wp at h2 ⊢
        generalize (execOp a.eval o).run P w = r at h2
        have key : ∀ a' w', (∃ S2 : World → Prop, (rest = [] ∨ S2 w' ∧ (false = true → ∀ u, S2 u → S u)) ∧ wpSeq false P ops Q S2 fl.tail rest a' w') →
            (∃ S2 : World → Prop, (rest = [] ∨ S2 w' ∧ (false = true → ∀ u, S2 u → S' u)) ∧ wpSeq false P ops Q S2 fl.tail rest a' w') :=
          fun a' w' ⟨S2, h3, h4⟩ => ⟨S2, h3.imp id (fun h => ⟨h.1, fun e => by cases e⟩), h4⟩
        cases r with
        | ok n w' =>
          cases n <;> simp only [Oper.upon] at h2 ⊢ <;> first
            | exact key _ _ h2
            | exact h2.mono (fun e w'' he => by cases e <;> first | exact key _ _ he | exact he)
            | exact h2.mono (fun v w'' he => key _ _ he)
        | halt x w' => cases x <;> simp only [Oper.upon] at h2 ⊢
    · rename_i hw
      rw [if_neg hw]
      exact wpSeq_false hs fl.tail rest _ w h

theorem oper_wp_noPanic {P : Program} {o : Oper} {a : Act} {w : World} {K K' : Act → World → Prop} {Q : Exit → Act → World → Prop} (hk : ∀ a w, K a w → K' a w)
    (h : o.wp P a w K (fun _ _ _ => False)) : o.wp P a w K' Q := by
  unfold Oper.wp at h ⊢
  generalize (execOp a.eval o).run P w = r at h
  cases r with
  | ok n w' =>
    cases n <;> simp only [Oper.upon] at h ⊢ <;> first
      | exact hk _ _ h
      | exact h.mono (fun e w'' he => by cases e <;> first | exact hk _ _ he | exact he.elim | exact (by obtain ⟨a, b, c⟩ := he; exact c.elim))
      | exact h.mono (fun v w'' he => hk _ _ he)
  | halt x w' => cases x <;> simp only [Oper.upon] at h ⊢

/-! ### A region that draws its order: the order of the text serves every order -/
/-- As the kit's law for held loads, but the operations of fx, which wait for all that are taken first, need not keep S. -/
def anyG (P : Program) (md : Region.Mode) (ops : Array Oper) (Q : Exit → Act → World → Prop) (S : World → Prop) (fx : Nat → Bool) : Nat → Array Bool → Act → World → Prop
  | 0, listed, a, w => Region.ready md ops listed = [] ∧ Q .normal a w
  | fuel + 1, listed, a, w =>
    (Region.ready md ops listed = [] → Q .normal a w) ∧
    ∀ i ∈ Region.ready md ops listed, wpOp P ops Q i (fun a' w' => (fx i = true ∨ S w') ∧ anyG P md ops Q S fx fuel (listed.setIfInBounds i true) a' w') a w

theorem wpAny_of_anyG {P : Program} {md : Region.Mode} {ops : Array Oper} {Q : Exit → Act → World → Prop} {S : World → Prop} {fx : Nat → Bool} :
    ∀ (fuel : Nat) (listed : Array Bool) (a : Act) (w : World), anyG P md ops Q S fx fuel listed a w → wpAny P md ops Q fuel listed a w
  | 0, _, _, _, h => h
  | fuel + 1, _, _, _, h => ⟨h.1, fun i hi => wpOp_mono (fun a' w' h' => wpAny_of_anyG fuel _ a' w' h'.2) (h.2 i hi)⟩

/-- What is listed waits for nothing that is not. -/
def Dc (md : Region.Mode) (ops : Array Oper) (listed : Array Bool) : Prop :=
  ∀ k o, listed.getD k false = true → ops[k]? = some o → ∀ e ∈ o.after, Region.binds md e = true → listed.getD e.on false = true
theorem getD_set_true {listed : Array Bool} {i k : Nat} (h : (listed.setIfInBounds i true).getD k false = true) : k = i ∨ listed.getD k false = true := by
  by_cases e : k = i
  · exact .inl e
  · right
    rwa [getD_set_false_ne e] at h
where
  getD_set_false_ne {listed : Array Bool} {i k : Nat} (e : k ≠ i) : (listed.setIfInBounds i true).getD k false = listed.getD k false := by
    have e' : i ≠ k := fun h => e h.symm
    simp only [Array.getD, Array.size_setIfInBounds]
    by_cases hk : k < listed.size
    · simp [hk, e']
    · simp [hk]
theorem getD_set_keep {listed : Array Bool} {i k : Nat} (h : listed.getD k false = true) : (listed.setIfInBounds i true).getD k false = true := by
  have hk : k < listed.size := by
    rcases Nat.lt_or_ge k listed.size with h' | h'
    · exact h'
    · simp [Array.getD, Nat.not_lt.2 h'] at h
  by_cases e : k = i
  · subst e; simp [Array.getD, hk]
  · have e' : i ≠ k := fun h => e h.symm
    simp [Array.getD, hk, e'] at h ⊢; exact h
theorem Dc.none (md : Region.Mode) (ops : Array Oper) (n : Nat) : Dc md ops (Array.replicate n false) := fun k o h => by
  simp [Array.getD] at h
/-- What an operation waits for, at however many removes. -/
def waitsB (md : Region.Mode) (ops : Array Oper) : Nat → Nat → Nat → Bool
  | 0, _, _ => false
  | fuel + 1, j, i => match ops[j]? with
    | none => false
    | some o => o.after.any fun e => Region.binds md e && (e.on == i || waitsB md ops fuel e.on i)
theorem waits_listed {md : Region.Mode} {ops : Array Oper} {listed : Array Bool} (hd : Dc md ops listed) {i : Nat} : ∀ (fuel j : Nat) (o : Oper), ops[j]? = some o → (∀ e ∈ o.after, Region.binds md e = true → listed.getD e.on false = true) →
    waitsB md ops fuel j i = true → listed.getD i false = true
  | 0, _, _, _, _, h => by cases h
  | fuel + 1, j, o, ho, hall, h => by
    unfold waitsB at h
    rw [ho] at h
    simp only [Array.any_eq_true, Bool.and_eq_true, Bool.or_eq_true, beq_iff_eq] at h
    obtain ⟨k, hk, hb, h | h⟩ := h
    · rw [← h]; exact hall _ (Array.getElem_mem hk) hb
    · have h1 := hall _ (Array.getElem_mem hk) hb
      cases ho2 : ops[(o.after[k]).on]? with
      | none =>
        cases fuel with
        | zero => cases h
        | succ fuel => unfold waitsB at h; rw [ho2] at h; cases h
      | some o2 => exact waits_listed hd fuel _ o2 ho2 (fun e he hb2 => hd _ o2 h1 ho2 e he hb2) h
theorem ready_all {md : Region.Mode} {ops : Array Oper} {listed : Array Bool} {j : Nat} (hj : j ∈ Region.ready md ops listed) : ∃ o, ops[j]? = some o ∧ (∀ e ∈ o.after, Region.binds md e = true → listed.getD e.on false = true) := by
  obtain ⟨_, oj, hoj, hall⟩ := mem_ready.1 hj
  exact ⟨oj, hoj, hall⟩
theorem Dc.set {md : Region.Mode} {ops : Array Oper} {listed : Array Bool} (hd : Dc md ops listed) {j : Nat} (hj : j ∈ Region.ready md ops listed) : Dc md ops (listed.setIfInBounds j true) := fun k o hk ho e he hb => by
  obtain ⟨oj, hoj, hall⟩ := ready_all hj
  rcases getD_set_true hk with rfl | hk
  · rw [hoj] at ho; cases ho; exact getD_set_keep (hall e he hb)
  · exact getD_set_keep (hd k o hk ho e he hb)

theorem anyG_first {P : Program} {md : Region.Mode} {ops : Array Oper} {Q : Exit → Act → World → Prop} {S : World → Prop} {fx : Nat → Bool} {i : Nat} {oi : Oper} {v : Value}
    (hi : ops[i]? = some oi) (hsel : ∀ (j : Nat) (o : Oper) cs b, ops[j]? = some o → o.op ≠ .select cs b)
    (hQ : ∀ c a w, Q (.panic c) (a.put oi.dst v) w → Q (.panic c) a w)
    :
    ∀ (fuel : Nat) (listed : Array Bool) (a : Act) (w : World), (∀ j, j < ops.size → fx j = true → listed.getD j false = true ∨ waitsB md ops ops.size j i = true) → Dc md ops listed →
      (∀ j oj, ops[j]? = some oj → j ≠ i → listed.getD j true = false → (∀ e ∈ oj.after, Region.binds md e = true → e.on ≠ i) → oi.apart ops oj = true) →
      i ∈ Region.ready md ops listed → YieldsIf P ops S oi v a → S w →
      anyG P md ops Q S fx fuel (listed.setIfInBounds i true) (a.put oi.dst v) w → anyG P md ops Q S fx (fuel + 1) listed a w := by
  intro fuel
  induction fuel with
  | zero =>
    intro listed a w _ _ _ hr hy hS H
    refine ⟨fun h => (by rw [h] at hr; cases hr), fun j hj => ?_⟩
    by_cases hji : j = i
    · subst hji; exact hy.wpOp hi hS ⟨.inr hS, H⟩
    · have := ready_mono hj hji
      rw [H.1] at this
      cases this
  | succ fuel ih =>
    intro listed a w hf hdc hfree hr hy hS H
    refine ⟨fun h => (by rw [h] at hr; cases hr), fun j hj => ?_⟩
    by_cases hji : j = i
    · subst hji; exact hy.wpOp hi hS ⟨.inr hS, H⟩
    · have h1 := H.2 j (ready_mono hj hji)
      obtain ⟨hjun, oj, hoj, hall⟩ := mem_ready.1 hj
      have hiun : listed.getD i false = false := by
        have h0 := (mem_ready.1 hr).1
        rcases Nat.lt_or_ge i listed.size with h' | h'
        · simpa [Array.getD, h'] using h0
        · simp [Array.getD, Nat.not_lt.2 h']
      have hnot : ∀ e ∈ oj.after, Region.binds md e = true → e.on ≠ i := fun e he hb heq => by
        have h1 := hall e he hb
        have h0 := (mem_ready.1 hr).1
        rw [heq] at h1
        rcases Nat.lt_or_ge i listed.size with h' | h'
        · simp [h'] at h0 h1; rw [h0] at h1; cases h1
        · simp [Array.getElem?_eq_none h'] at h1
      have hjf : fx j = false := by
        cases hfx : fx j with
        | false => rfl
        | true =>
          rcases hf j (Array.getElem?_eq_some_iff.1 hoj).1 hfx with h4 | h4
          · have h5 : listed.getD j false = false := by
              have h0 := hjun
              rcases Nat.lt_or_ge j listed.size with h' | h'
              · simpa [Array.getD, h'] using h0
              · simp [Array.getD, Nat.not_lt.2 h']
            rw [h5] at h4; cases h4
          · have := waits_listed hdc ops.size j oj hoj hall h4
            rw [hiun] at this; cases this
      have h2 := wpOp_putIf hoj (hfree j oj hoj hji hjun hnot) (fun cs b => hsel i oi cs b hi) (fun cs b => hsel j oj cs b hoj) hQ hy h1
      have hfree' : ∀ k ok, ops[k]? = some ok → k ≠ i → (listed.setIfInBounds j true).getD k true = false →
          (∀ e ∈ ok.after, Region.binds md e = true → e.on ≠ i) → oi.apart ops ok = true := fun k ok hk hki hun hno => by
        refine hfree k ok hk hki ?_ hno
        by_cases hjk : j = k
        · subst hjk; exact hjun
        · rw [getD_set_ne true hjk] at hun; exact hun
      refine wpOp_mono (fun a' w' h3 => ?_) h2
      have hS' : S w' := h3.2.1.resolve_left (by rw [hjf]; simp)
      refine ⟨.inr hS', ih (listed.setIfInBounds j true) a' w' (fun k hk hfk => (hf k hk hfk).imp getD_set_keep id) (hdc.set hj) hfree' (ready_mono hr (Ne.symm hji)) h3.1 hS' ?_⟩
      rw [Array.setIfInBounds_comm _ _ hji]
      exact h3.2.2

theorem anyG_mono {P : Program} {md : Region.Mode} {ops : Array Oper} {Q : Exit → Act → World → Prop} {S S' : World → Prop} {fx : Nat → Bool} (hs : ∀ w, S w → S' w) :
    ∀ (fuel : Nat) (listed : Array Bool) (a : Act) (w : World), anyG P md ops Q S fx fuel listed a w → anyG P md ops Q S' fx fuel listed a w
  | 0, _, _, _, h => h
  | fuel + 1, _, _, _, h => ⟨h.1, fun i hi => wpOp_mono (fun a' w' h' => ⟨h'.1.imp id (hs w'), anyG_mono hs fuel _ a' w' h'.2⟩) (h.2 i hi)⟩

/-- The check of the order of the text, by the kernel: a true in fl: the operation may be taken first; else it is the only one that may come up. f: the operation that need not keep S. -/
def seqOk (ops : Array Oper) (f : Nat) : List Bool → Nat → Nat → Array Bool → Bool
  | _, 0, _, listed => (Region.ready .any ops listed).isEmpty
  | fl, fuel + 1, k, listed =>
    (bif fl.headD false then
      (Region.ready .any ops listed).contains k && Region.free .any ops listed k && !(f == k) &&
        (match ops[f]? with | none => true | some o => o.after.any fun e => Region.binds .any e && e.on == k)
     else Region.ready .any ops listed == [k] && (!(fuel == 0) || f == k)) && seqOk ops f fl.tail fuel (k + 1) (listed.setIfInBounds k true)

theorem anyG_of_seq {P : Program} {ops : Array Oper} {Q : Exit → Act → World → Prop} {f : Nat}
    (hsel : Region.noSelect ops = true) (hQ : ∀ c a w, ¬ Q (.panic c) a w) :
    ∀ (l : List Oper) (S : World → Prop) (fl : List Bool) (k : Nat) (listed : Array Bool) (a : Act) (w : World), Dc .any ops listed → (∀ j, l[j]? = ops[k + j]?) →
      seqOk ops f fl l.length k listed = true → (l = [] ∨ S w) → wpSeq true P ops Q S fl l a w → anyG P .any ops Q S (fun i => i == f) l.length listed a w
  | [], _, _, _, _, a, w, _, _, hB, _, h => by
    refine ⟨?_, h⟩
    simpa [seqOk] using hB
  | o :: l, S, fl, k, listed, a, w, hdc, hl, hB, hk, h => by
    have hS : S w := hk.resolve_left (by simp)
    have h0 : ops[k]? = some o := by simpa using (hl 0).symm
    have hl' : ∀ j, l[j]? = ops[k + 1 + j]? := fun j => by have := hl (j + 1); simpa [Nat.add_assoc, Nat.add_comm 1 j] using this
    simp only [List.length_cons, seqOk, Bool.and_eq_true] at hB
    obtain ⟨hB1, hB2⟩ := hB
    unfold wpSeq at h
    by_cases hfl : fl.headD false = true
    · rw [hfl] at hB1
      simp only [cond_true, Bool.and_eq_true, Bool.not_eq_true', beq_eq_false_iff_ne] at hB1
      obtain ⟨⟨⟨hr, hfree⟩, hfk⟩, hwait⟩ := hB1
      have hwait' : ∀ j, j < ops.size → (j == f) = true → waitsB .any ops ops.size j k = true := fun j hj hjf => by
        have := beq_iff_eq.1 hjf
        subst this
        rw [Array.getElem?_eq_getElem hj] at hwait
        simp only [Array.any_eq_true, Bool.and_eq_true, beq_iff_eq] at hwait
        obtain ⟨i, hi, h1, h2⟩ := hwait
        obtain ⟨m, hm⟩ : ∃ m, ops.size = m + 1 := ⟨ops.size - 1, by omega⟩
        rw [hm]
        unfold waitsB
        rw [Array.getElem?_eq_getElem hj]
        simp only [Array.any_eq_true, Bool.and_eq_true, Bool.or_eq_true, beq_iff_eq]
        exact ⟨i, hi, h1, .inl h2⟩
      have hdc' : Dc .any ops (listed.setIfInBounds k true) := hdc.set (by simpa using hr)
      have main : ∀ v, YieldsIf P ops S o v a → wpSeq true P ops Q S fl.tail l (a.put o.dst v) w → anyG P .any ops Q S (fun i => i == f) (o :: l).length listed a w := fun v hy h =>
        anyG_first h0 (Region.noSelect_spec hsel) (fun c a w hq => (hQ c _ w hq).elim) l.length listed a w (fun j hj hjf => .inr (hwait' j hj hjf)) hdc (Region.free_spec h0 hfree) (by simpa using hr) hy hS
          (anyG_of_seq hsel hQ l S fl.tail (k + 1) _ _ w hdc' hl' hB2 (.inr hS) h)
      split at h
      · rename_i hw
        rcases h with ⟨v, hv, h⟩ | ⟨hno, _⟩
        · exact main v (.inl ⟨hw, hv⟩) h
        · rw [hno rfl] at hfl; cases hfl
      · rename_i hw
        exact main undef (.inr ⟨by simpa using hw, rfl⟩) h
    · simp only [Bool.not_eq_true] at hfl
      rw [hfl] at hB1
      simp only [cond_false, Bool.and_eq_true, beq_iff_eq, Bool.or_eq_true, Bool.not_eq_true', beq_eq_false_iff_ne] at hB1
      obtain ⟨hr, hlast⟩ := hB1
      have hdc' : Dc .any ops (listed.setIfInBounds k true) := hdc.set (by rw [hr]; simp)
      refine ⟨fun h' => absurd (hr ▸ h') (by simp), fun i hi => ?_⟩
      rw [hr] at hi
      simp only [List.mem_singleton] at hi
      subst hi
      have hlast' : ∀ S2 : World → Prop, ∀ w', (l = [] ∨ S2 w') → ((i == f) = true ∨ S2 w') := fun S2 w' h2 => by
        rcases h2 with h2 | h2
        · left
          rcases hlast with h3 | h3
          · subst h2; simp at h3
          · simpa using h3.symm
        · exact .inr h2
      unfold wpOp
      rw [h0]
      simp only
      split at h
      · rename_i hw
        rw [if_pos hw]
        left
        rcases h with ⟨v, hv, h⟩ | ⟨_, h⟩
        · unfold Oper.wp
          rw [hv w hS]
          exact ⟨.inr hS, anyG_of_seq hsel hQ l S fl.tail (i + 1) _ _ w hdc' hl' hB2 (.inr hS) h⟩
        · refine oper_wp_noPanic (fun a' w' h' => ?_) h
          obtain ⟨S2, h2, h3⟩ := h'
          have h4 := anyG_of_seq hsel hQ l S2 fl.tail (i + 1) _ _ w' hdc' hl' hB2 (h2.imp id (·.1)) h3
          rcases h2 with h2 | ⟨h2, h5⟩
          · refine ⟨hlast' S w' (.inl h2), ?_⟩
            subst h2
            exact h4
          · exact ⟨.inr (h5 rfl w' h2), anyG_mono (h5 rfl) _ _ _ _ h4⟩
      · rename_i hw
        rw [if_neg hw]
        exact ⟨.inr hS, anyG_of_seq hsel hQ l S fl.tail (i + 1) _ _ w hdc' hl' hB2 (.inr hS) h⟩

/-! ### The same in a round of a loop over a function -/
def FW (R : Option Nat) : Fence := ⟨fun _ => True, none, false, R⟩
theorem calls_FW {P : Program} {f : FuncId} {args : Array Value} {w : World} {E : Ending → World → Prop} {R : Option Nat} {n : Nat} (h : Calls P f args w E) : CallsIn (FW R) n P f args w E :=
  show CallsIn Fence.wide n P f args w E from callsIn_wide.2 h
theorem calls_of_FW {P : Program} {f : FuncId} {args : Array Value} {w : World} {E : Ending → World → Prop} {R : Option Nat} {n : Nat} (h : CallsIn (FW R) n P f args w E) : Calls P f args w E :=
  callsIn_wide.1 (show CallsIn Fence.wide n P f args w E from h)
theorem rows_FW {P : Program} {row : String} {args : Array Value} {w : World} {E : Value → World → Prop} {R : Option Nat} {n : Nat} (h : Rows P row args w E) : RowsIn (FW R) n P row args w E :=
  fun c cs _ => let ⟨v, w', r, s⟩ := h c cs; ⟨v, w', r, (stepsIn_wide (P := P)).2 s⟩
def noDef (l : List Oper) : Bool := l.all fun o => match o.op with | .defer _ => false | _ => true
theorem opIn_of {P : Program} {o : Oper} {a : Act} {w : World} {K : Act → World → Prop} {Q : Exit → Act → World → Prop} {R : Option Nat} {n : Nat} (hd : ∀ c, o.op ≠ .defer c) (h : o.wp P a w K Q) : o.wpIn (FW R) n P a w K Q := by
  refine ⟨fun _ _ => trivial, ?_⟩
  rw [Oper.semAt_eq _ _ _ hd]
  unfold Oper.wp at h
  generalize (execOp a.eval o).run P w = r at h
  cases r with
  | ok x w' =>
    cases x <;> simp only [Oper.upon, Oper.uponIn] at h ⊢ <;> first
      | exact h
      | exact ⟨fun e => (by cases e), calls_FW h⟩
      | exact ⟨fun e => (by cases e), rows_FW h⟩
  | halt x w' => cases x <;> simp only [Oper.upon, Oper.uponIn] at h ⊢ <;> exact h
theorem noDef_get {l : List Oper} (h : noDef l = true) {o : Oper} (ho : o ∈ l) : ∀ c, o.op ≠ .defer c := fun c e => by
  have := List.all_eq_true.1 h o ho
  rw [e] at this; cases this
theorem listIn_of_seq {P : Program} {ops : Array Oper} {Q : Exit → Act → World → Prop} {R : Option Nat} {n : Nat} : ∀ (l : List Oper) (S : World → Prop) (fl : List Bool) (a : Act) (w : World), noDef l = true →
    (l = [] ∨ S w) → wpSeq false P ops Q S fl l a w → wpListIn (FW R) n P ops Q l a w
  | [], _, _, _, _, _, _, h => h
  | o :: rest, S, fl, a, w, hd, hS, h => by
    have hS : S w := hS.resolve_left (by simp)
    have hr : noDef rest = true := by simp only [noDef, List.all_cons, Bool.and_eq_true] at hd; exact hd.2
    unfold wpSeq at h
    unfold wpListIn
    split at h
    · rename_i hw
      rw [if_pos hw]
      refine opIn_of (noDef_get hd (.head _)) ?_
      rcases h with ⟨v, hv, h⟩ | ⟨_, h⟩
      · unfold Oper.wp
        rw [hv w hS]
        exact listIn_of_seq rest S fl.tail _ w hr (.inr hS) h
      · refine oper_wp_noPanic (fun a' w' h' => ?_) h
        obtain ⟨S2, h2, h3⟩ := h'
        exact listIn_of_seq rest S2 fl.tail a' w' hr (h2.imp id (·.1)) h3
    · rename_i hw
      rw [if_neg hw]
      exact ⟨fun _ _ => trivial, listIn_of_seq rest S fl.tail _ w hr (.inr hS) h⟩
/-- The ways out that are no panic. -/
def Only (Q : Exit → Act → World → Prop) : Exit → Act → World → Prop
  | .panic _, _, _ => False
  | .outgrown, _, _ => False
  | e, a, w => Q e a w
theorem only_out {Q : Exit → Act → World → Prop} : ∀ e a w, Only Q e a w → Q e a w := fun e a w h => by
  cases e <;> first | exact h | exact h.elim
theorem only_let {Q : Exit → Act → World → Prop} : ¬ LetsOut (Only Q) := fun ⟨_, _, h⟩ => h
theorem anyIn_of {P : Program} {ops : Array Oper} {Q : Exit → Act → World → Prop} {md : Region.Mode} {R : Option Nat} {n : Nat} (hd : noDef ops.toList = true) (hQ : ¬ LetsOut Q) : ∀ (fuel : Nat) (listed : Array Bool) (a : Act) (w : World), wpAny P md ops Q fuel listed a w → wpAnyIn (FW R) n P md ops Q fuel listed a w
  | 0, _, _, _, h => h
  | fuel + 1, listed, a, w, h => ⟨h.1, fun i hi => by
    have h1 := h.2 i hi
    unfold wpOp at h1
    unfold wpOpIn
    cases ho : ops[i]? with
    | none => rw [ho] at h1; exact anyIn_of hd hQ fuel _ a w h1
    | some o =>
      rw [ho] at h1
      simp only at h1 ⊢
      split at h1
      · rename_i hw
        rw [if_pos hw]
        rcases h1 with h1 | h1
        · exact Oper.wpIn_mono (fun a' w' h' => anyIn_of hd hQ fuel _ a' w' h') (opIn_of (noDef_get hd (by rw [← Array.mem_toList_iff.symm]; exact Array.mem_of_getElem? ho)) h1)
        · exact (hQ h1.2).elim
      · rename_i hw
        rw [if_neg hw]
        exact ⟨fun _ _ => trivial, anyIn_of hd hQ fuel _ _ w h1⟩⟩
theorem wpIn_region_seqL {P : Program} {l : List Oper} {id : Nat} {Q : Exit → Act → World → Prop} {R : Option Nat} {n : Nat} {a : Act} {w : World} {S : World → Prop} (hd : noDef l = true) (hS : S w) (h : wpSeq false P l.toArray Q S [] l a w) : (Code.region id l.toArray false).wpIn (FW R) n P Q a w :=
  wpIn_region_lit (listIn_of_seq l S [] a w hd (.inr hS) h)
theorem wpIn_region_anyL {P : Program} {l : List Oper} {id : Nat} {Q : Exit → Act → World → Prop} {R : Option Nat} {n : Nat} {a : Act} {w : World} (hm : P.follows .mixedOrders = true) (hd : noDef l = true)
    (h : wpAny P .any l.toArray (Only Q) l.toArray.size (Array.replicate l.toArray.size false) a { w with drawn := w.drawn + 1 }) : (Code.region id l.toArray true).wpIn (FW R) n P Q a w :=
  wpIn_mono (wpIn_region_any hm (anyIn_of (by simpa using hd) only_let _ _ _ _ h)) only_out
theorem wpIn_region_seq {P : Program} {l : List Oper} {id : Nat} {Q : Exit → Act → World → Prop} {S : World → Prop} {R : Option Nat} {n : Nat} {a : Act} {w : World} (f : Nat) (fl : List Bool) (hd : noDef l = true)
    (hm : P.follows .mixedOrders = true) (hsel : Region.noSelect l.toArray = true) (hB : seqOk l.toArray f fl l.length 0 (Array.replicate l.length false) = true)
    (hS : S { w with drawn := w.drawn + 1 }) (h : wpSeq true P l.toArray (Only Q) S fl l a { w with drawn := w.drawn + 1 }) : (Code.region id l.toArray true).wpIn (FW R) n P Q a w := by
  refine wpIn_region_anyL hm hd (wpAny_of_anyG _ _ _ _ (?_ : anyG P .any l.toArray (Only Q) S (fun i => i == f) l.toArray.size _ a _))
  have := anyG_of_seq (P := P) (Q := Only Q) (f := f) hsel (fun c a w h => h) l S fl 0 (Array.replicate l.length false) a _ (Dc.none _ _ _) (by simp) hB (.inr hS) h
  simpa using this

end Go.Proofs.YtojinjdobjodaaaGreat
namespace Go.Proofs.YtojinjdobjodaaaGreat
open Go
set_option linter.unusedSimpArgs false
set_option linter.unusedVariables false

structure Cx where
  P : Program
  n : Nat
  B : World
  X : Side
  lo : Bool
  df : List Deferred
  R : Option Nat
def Cx.m (C : Cx) : Nat × List Deferred := (C.n, C.df)
/-- Which heaplets of the call's own a drawn region keeps from operation to operation: in the low form none. -/
def Cx.W (C : Cx) (L : List Hp) : List Hp := bif C.lo then [] else L
theorem St.w {C : Cx} {B : World} {X : Side} {ims L : List Hp} {w : World} (h : St B X ims L w) : St B X ims (C.W L) w := by
  unfold Cx.W; cases C.lo with
  | true => show St B X ims [] w; exact h.weak (i := allIn_refl _) (List.nil_sublist _)
  | false => exact h
theorem St.wl {C : Cx} {B : World} {X : Side} {ims L L' : List Hp} {w : World} (s : L'.Sublist L) (h : St B X ims (C.W L) w) : St B X ims (C.W L') w := by
  unfold Cx.W at *
  cases e : C.lo <;> rw [e] at h
  · show St B X ims L' w; exact St.weak (L := L) (i := allIn_refl _) h s
  · exact h
theorem St.wlo {C : Cx} (hl : C.lo = true) {B : World} {X : Side} {ims L L' : List Hp} {w : World} (h : St B X ims (C.W L) w) : St B X ims (C.W L') w := by
  unfold Cx.W at *; rw [hl] at *; exact h
theorem Cx.whi {C : Cx} (hl : C.lo = false) (L : List Hp) : C.W L = L := by unfold Cx.W; rw [hl]; rfl

abbrev Post := Exit → Act → World → Prop

/-- What is left of a region. -/
def KL (C : Cx) (dr : Bool) (ops : Array Oper) (Q : Post) (ims L : List Hp) (fl : List Bool) (l : List Oper) (G : Env) : Prop :=
  ∀ a w, Fit C.m G a → St C.B C.X ims L w → wpSeq dr C.P ops Q (St C.B C.X ims (C.W L)) fl l a w
/-- A code. -/
def KC (C : Cx) (Q : Post) (ims L : List Hp) (c : Code) (G : Env) : Prop :=
  ∀ a w, Fit C.m G a → St C.B C.X ims L w → c.wpIn (FW C.R) 0 C.P Q a w

/-! ### Codes -/
section codes
variable {C : Cx} {Q : Post} {ims L : List Hp} {G : Env}

theorem kc_seq {x y : Code} (h : KC C (Exit.then (y.wpIn (FW C.R) 0 C.P Q) Q) ims L x G) : KC C Q ims L (.seq x y) G := fun a w hf hs => wpIn_seq (h a w hf hs)
theorem kc_block {id : Nat} {c : Code} (h : KC C (Exit.inBlock id Q) ims L c G) : KC C Q ims L (.block id c) G := fun a w hf hs => wpIn_block (h a w hf hs)
theorem kl_pick {dr : Bool} {ops : Array Oper} {fl : List Bool} {l : List Oper} {G' : Env} (hp : Pick G G') (h : KL C dr ops Q ims L fl l G') : KL C dr ops Q ims L fl l G := fun a w hf hs => h a w (hp.fit hf) hs
/-- Behind a code that ends as it should, the post at hand. -/
def KQ (C : Cx) (ims L : List Hp) (G : Env) (p : Act → World → Prop) : Prop := ∀ a w, Fit C.m G a → St C.B C.X ims L w → p a w
theorem kq_code {c : Code} (h : KC C Q ims L c G) : KQ C ims L G (c.wpIn (FW C.R) 0 C.P Q) := h
theorem kc_skipQ (h : KQ C ims L G (Q .normal)) : KC C Q ims L .skip G := fun a w hf hs => wpIn_skip (h a w hf hs)
theorem kc_exit {id : Nat} (h : KQ C ims L G (Q (.exit id))) : KC C Q ims L (.exit id) G := fun a w hf hs => wpIn_exit (h a w hf hs)
theorem kc_ret (h : KQ C ims L G (Q .ret)) : KC C Q ims L .ret G := fun a w hf hs => wpIn_ret (h a w hf hs)
theorem kc_region {id : Nat} {l : List Oper} (h : KL C false l.toArray Q ims L [] l G) (hd : noDef l = true := by rfl) : KC C Q ims L (.region id l.toArray false) G :=
  fun a w hf hs => wpIn_region_seqL hd hs.w (h a w hf hs)
theorem St.drew {B : World} {X : Side} {ims L : List Hp} {w : World} (h : St B X ims L w) : St B X ims L { w with drawn := w.drawn + 1 } := h.call ⟨Nat.le_refl _, fun _ _ _ => rfl, ⟨rfl, rfl⟩⟩
theorem kc_draw {id : Nat} {l : List Oper} (f : Nat) (fl : List Bool) (hm : C.P.follows .mixedOrders = true) (hB : (Region.noSelect l.toArray && seqOk l.toArray f fl l.length 0 (Array.replicate l.length false)) = true)
    (h : KL C true l.toArray (Only Q) ims L fl l G) (hd : noDef l = true := by rfl) : KC C Q ims L (.region id l.toArray true) G := fun a w hf hs => by
  rw [Bool.and_eq_true] at hB
  exact wpIn_region_seq f fl hd hm hB.1 hB.2 hs.drew.w (h a _ hf hs.drew)
theorem kl_nil {dr : Bool} {ops : Array Oper} {fl : List Bool} (h : KQ C ims L G (Q .normal)) : KL C dr ops Q ims L fl [] G := fun a w hf hs => h a w hf hs
/-- The test of a Bool. -/
theorem kc_cond {t : Nat} {x y : Code} {b : Bool} (hv : look t G = some (.bool b)) (h1 : b = true → KC C Q ims L x G) (h2 : b = false → KC C Q ims L y G) :
    KC C Q ims L (.cond (.tmp t) x y) G := fun a w hf hs => by
  have he : a.eval (.tmp t) = .bool b := (hf.get t _ hv).2
  refine wpIn_cond he ?_
  cases b with
  | true => exact h1 rfl a w hf hs
  | false => exact h2 rfl a w hf hs
/-- The test of a proposition. -/
theorem kc_if {t : Nat} {x y : Code} {p : Prop} {dp : Decidable p} (hv : look t G = some (.bool (@decide p dp))) (h1 : p → KC C Q ims L x G) (h2 : ¬ p → KC C Q ims L y G) :
    KC C Q ims L (.cond (.tmp t) x y) G := kc_cond hv (fun h => h1 (of_decide_eq_true h)) (fun h => h2 (of_decide_eq_false h))
/-- A loop: x is the state; If, Lf, Gf: the heaplets and the slots as functions of it; Gx: the slots that the body does not write. -/
theorem kc_loop {A : Type} {body : Code} (J : A → Prop) (mu : A → Nat) (If Lf : A → List Hp) (Gf : A → Env) (x0 : A) {Gx : Env} {ims0 : List Hp}
    (hx : Pick G Gx) (hg : Pick G (Gf x0)) (hi : ims = If x0 ++ ims0) (hl : L = Lf x0) (h0 : J x0)
    (round : ∀ x, J x → KC C (Exit.then (fun a w => ∃ x', mu x' < mu x ∧ J x' ∧ Fit C.m (Gf x' ++ Gx) a ∧ St C.B C.X (If x' ++ ims0) (Lf x') w) Q) (If x ++ ims0) (Lf x) body (Gf x ++ Gx)) :
    KC C Q ims L (.loop body) G := fun a w hf hs => by
  subst hi hl
  have key : ∀ m x a w, mu x = m → J x → Fit C.m (Gf x ++ Gx) a → St C.B C.X (If x ++ ims0) (Lf x) w → (Code.loop body).wpIn (FW C.R) 0 C.P Q a w := by
    intro m x a w _ hJ hF hS
    refine wpIn_loop (I := fun a w => ∃ x, J x ∧ Fit C.m (Gf x ++ Gx) a ∧ St C.B C.X (If x ++ ims0) (Lf x) w)
      (μ := fun a w => Classical.epsilon fun m => (∃ x, mu x = m ∧ J x ∧ Fit C.m (Gf x ++ Gx) a ∧ St C.B C.X (If x ++ ims0) (Lf x) w) ∧ ∀ x, J x → Fit C.m (Gf x ++ Gx) a → St C.B C.X (If x ++ ims0) (Lf x) w → m ≤ mu x) ⟨x, hJ, hF, hS⟩ ?_
    intro a w hI
    have hmin : ∃ m, (∃ x, mu x = m ∧ J x ∧ Fit C.m (Gf x ++ Gx) a ∧ St C.B C.X (If x ++ ims0) (Lf x) w) ∧ ∀ x, J x → Fit C.m (Gf x ++ Gx) a → St C.B C.X (If x ++ ims0) (Lf x) w → m ≤ mu x := by
      have aux : ∀ k, (∃ x, mu x = k ∧ J x ∧ Fit C.m (Gf x ++ Gx) a ∧ St C.B C.X (If x ++ ims0) (Lf x) w) → ∃ m, (∃ x, mu x = m ∧ J x ∧ Fit C.m (Gf x ++ Gx) a ∧ St C.B C.X (If x ++ ims0) (Lf x) w) ∧ ∀ x, J x → Fit C.m (Gf x ++ Gx) a → St C.B C.X (If x ++ ims0) (Lf x) w → m ≤ mu x := by
        intro k
        induction k using Nat.strongRecOn with
        | _ k ih =>
          intro hk
          by_cases hlow : ∃ x, mu x < k ∧ J x ∧ Fit C.m (Gf x ++ Gx) a ∧ St C.B C.X (If x ++ ims0) (Lf x) w
          · obtain ⟨x, h1, h2⟩ := hlow
            exact ih (mu x) h1 ⟨x, rfl, h2⟩
          · exact ⟨k, hk, fun x h1 h2 h3 => Nat.le_of_not_lt fun h4 => hlow ⟨x, h4, h1, h2, h3⟩⟩
      obtain ⟨x, hx⟩ := hI
      exact aux (mu x) ⟨x, rfl, hx⟩
    obtain ⟨⟨x, hm, hJ, hF, hS⟩, hle⟩ := Classical.epsilon_spec hmin
    refine wpIn_mono (round x hJ a w hF hS) ?_
    intro e a' w' hq
    cases e with
    | normal =>
      obtain ⟨x', hlt, hJ', hF', hS'⟩ := hq
      refine ⟨⟨x', hJ', hF', hS'⟩, ?_⟩
      have hmin' : ∃ m, (∃ x, mu x = m ∧ J x ∧ Fit C.m (Gf x ++ Gx) a' ∧ St C.B C.X (If x ++ ims0) (Lf x) w') ∧ ∀ x, J x → Fit C.m (Gf x ++ Gx) a' → St C.B C.X (If x ++ ims0) (Lf x) w' → m ≤ mu x := by
        have aux : ∀ k, (∃ x, mu x = k ∧ J x ∧ Fit C.m (Gf x ++ Gx) a' ∧ St C.B C.X (If x ++ ims0) (Lf x) w') → ∃ m, (∃ x, mu x = m ∧ J x ∧ Fit C.m (Gf x ++ Gx) a' ∧ St C.B C.X (If x ++ ims0) (Lf x) w') ∧ ∀ x, J x → Fit C.m (Gf x ++ Gx) a' → St C.B C.X (If x ++ ims0) (Lf x) w' → m ≤ mu x := by
          intro k
          induction k using Nat.strongRecOn with
          | _ k ih =>
            intro hk
            by_cases hlow : ∃ x, mu x < k ∧ J x ∧ Fit C.m (Gf x ++ Gx) a' ∧ St C.B C.X (If x ++ ims0) (Lf x) w'
            · obtain ⟨x, h1, h2⟩ := hlow
              exact ih (mu x) h1 ⟨x, rfl, h2⟩
            · exact ⟨k, hk, fun x h1 h2 h3 => Nat.le_of_not_lt fun h4 => hlow ⟨x, h4, h1, h2, h3⟩⟩
        exact aux (mu x') ⟨x', rfl, hJ', hF', hS'⟩
      have h4 := (Classical.epsilon_spec hmin').2 x' hJ' hF' hS'
      exact Nat.lt_of_le_of_lt h4 (hm ▸ hlt)
    | exit id => exact hq
    | goto l => exact hq
    | ret => exact hq
    | panic c => exact hq
    | outgrown => exact hq
  exact key _ x0 a w rfl h0 ((hg.app hx).fit hf) hs
end codes

/-! ### Operations -/
section ops
variable {C : Cx} {dr : Bool} {ops : Array Oper} {Q : Post} {ims L : List Hp} {G : Env} {fl : List Bool} {rest : List Oper}
  {d ty : Nat} {pos : String} {af : Array Edge}

/-- What is behind a value: the operation with its guard struck. -/
theorem kl_gT {od : Option Nat} {op : Op} {j dj : Nat} {b : Bool} (hj : (ops[j]?).bind (·.dst) = some dj) (hv : look dj G = some (.bool b)) {c : Bool} (hb : b = c)
    (h : KL C dr ops Q ims L fl (⟨od, op, ty, pos, af, none⟩ :: rest) G) : KL C dr ops Q ims L fl (⟨od, op, ty, pos, af, some (j, c)⟩ :: rest) G := fun a w hf hs => by
  have h1 := h a w hf hs
  obtain ⟨h2, h3⟩ := hf.get dj _ hv
  have hy : yielded ops a.tmps j = some c := by
    subst hb
    unfold yielded
    rw [hj]
    simp only [Option.bind_some]
    have : a.tmps[dj]? = some (.bool b) := by
      rw [Array.getElem?_eq_getElem (by rw [hf.size]; exact h2)]
      rw [← h3]
      simp [Array.getD, hf.size, h2]
    rw [this]
  unfold wpSeq at h1 ⊢
  simp only [Region.wanted, hy, beq_self_eq_true, if_true] at h1 ⊢
  exact h1
theorem kl_gF {op : Op} {j dj : Nat} {b : Bool} (hj : (ops[j]?).bind (·.dst) = some dj) (hv : look dj G = some (.bool b)) {c : Bool} (hb : b = !c)
    (h : KL C dr ops Q ims L fl.tail rest ((d, undef) :: G)) (hlt : Nat.blt d C.n = true := by rfl) : KL C dr ops Q ims L fl (⟨some d, op, ty, pos, af, some (j, c)⟩ :: rest) G := fun a w hf hs => by
  obtain ⟨h2, h3⟩ := hf.get dj _ hv
  have hy : yielded ops a.tmps j = some b := by
    unfold yielded
    rw [hj]
    simp only [Option.bind_some]
    have : a.tmps[dj]? = some (.bool b) := by
      rw [Array.getElem?_eq_getElem (by rw [hf.size]; exact h2)]
      rw [← h3]
      simp [Array.getD, hf.size, h2]
    rw [this]
  unfold wpSeq
  have : Region.wanted ⟨some d, op, ty, pos, af, some (j, c)⟩ (yielded ops a.tmps) = false := by
    subst hb
    cases c <;> simp [Region.wanted, hy]
  rw [if_neg (by simp [this])]
  exact h _ w (hf.put (by simpa [Nat.blt_eq, Cx.m] using hlt)) hs

def Ev (G : Env) (r : Operand → Value) : Prop := ∀ x v, ev G x = some v → r x = v
theorem Fit.toEv {n : Nat × List Deferred} {a : Act} (h : Fit n G a) : Ev G a.eval := fun _ _ hx => h.ev hx
/-- An operation that yields a value in every world that fits. -/
theorem kl_y {op : Op} {v : Value} (hy : ∀ (r : Operand → Value) w, Ev G r → St C.B C.X ims (C.W L) w → (execOp r ⟨some d, op, ty, pos, af, none⟩).run C.P w = .ok (.value v) w)
    (h : KL C dr ops Q ims L fl.tail rest ((d, v) :: G)) (hlt : Nat.blt d C.n = true) : KL C dr ops Q ims L fl (⟨some d, op, ty, pos, af, none⟩ :: rest) G := fun a w hf hs => by
  unfold wpSeq
  rw [if_pos (by simp [Region.wanted])]
  exact .inl ⟨v, fun w' hs' => hy a.eval w' hf.toEv hs', h _ w (hf.put (by simpa [Nat.blt_eq, Cx.m] using hlt)) hs⟩

theorem kl_mv {x : Operand} {v : Value} (hx : ev G x = some v) (h : KL C dr ops Q ims L fl.tail rest ((d, v) :: G)) (hlt : Nat.blt d C.n = true := by rfl) :
    KL C dr ops Q ims L fl (⟨some d, .move x, ty, pos, af, none⟩ :: rest) G :=
  kl_y (fun a w hf _ => by simp [go_sem, hf _ _ hx]) h hlt
theorem kl_as {x : Operand} {v : Value} (hx : ev G x = some v) (h : KL C dr ops Q ims L fl.tail rest ((d, v) :: G)) (hlt : Nat.blt d C.n = true := by rfl) :
    KL C dr ops Q ims L fl (⟨some d, .assign x, ty, pos, af, none⟩ :: rest) G :=
  kl_y (fun a w hf _ => by simp [go_sem, hf _ _ hx]) h hlt
theorem kl_pickT {c x y : Operand} {b : Bool} {v : Value} (hc : ev G c = some (.bool b)) (hb : b = true) (hx : ev G x = some v) (h : KL C dr ops Q ims L fl.tail rest ((d, v) :: G)) (hlt : Nat.blt d C.n = true := by rfl) :
    KL C dr ops Q ims L fl (⟨some d, .pick c x y, ty, pos, af, none⟩ :: rest) G :=
  kl_y (fun a w hf _ => by subst hb; simp [go_sem, hf _ _ hc, hf _ _ hx]) h hlt
theorem kl_pickF {c x y : Operand} {b : Bool} {v : Value} (hc : ev G c = some (.bool b)) (hb : b = false) (hx : ev G y = some v) (h : KL C dr ops Q ims L fl.tail rest ((d, v) :: G)) (hlt : Nat.blt d C.n = true := by rfl) :
    KL C dr ops Q ims L fl (⟨some d, .pick c x y, ty, pos, af, none⟩ :: rest) G :=
  kl_y (fun a w hf _ => by subst hb; simp [go_sem, hf _ _ hc, hf _ _ hx]) h hlt

/-! Integers. -/
theorem wrap_in {z : Int} (h : -9223372036854775808 ≤ z ∧ z ≤ 9223372036854775807) : IntKind.i64.wrap z = z := by rw [IntKind.wrap_i64]; omega

section ints
variable {x y : Operand} {T T2 : Nat} {m k : Int} (hx : ev G x = some (.int .i64 m)) (hy : ev G y = some (.int .i64 k))
include hx hy
theorem kl_add (hb : -9223372036854775808 ≤ m + k ∧ m + k ≤ 9223372036854775807) (h : KL C dr ops Q ims L fl.tail rest ((d, .int .i64 (m + k)) :: G)) (hlt : Nat.blt d C.n = true := by rfl) :
    KL C dr ops Q ims L fl (⟨some d, .binOp .add T x y T2, ty, pos, af, none⟩ :: rest) G :=
  kl_y (fun a w hf _ => by simp [go_sem, hf _ _ hx, hf _ _ hy, wrap_in hb]) h hlt
theorem kl_sub (hb : -9223372036854775808 ≤ m - k ∧ m - k ≤ 9223372036854775807) (h : KL C dr ops Q ims L fl.tail rest ((d, .int .i64 (m - k)) :: G)) (hlt : Nat.blt d C.n = true := by rfl) :
    KL C dr ops Q ims L fl (⟨some d, .binOp .sub T x y T2, ty, pos, af, none⟩ :: rest) G :=
  kl_y (fun a w hf _ => by simp [go_sem, hf _ _ hx, hf _ _ hy, wrap_in hb]) h hlt
theorem kl_mul (hb : -9223372036854775808 ≤ m * k ∧ m * k ≤ 9223372036854775807) (h : KL C dr ops Q ims L fl.tail rest ((d, .int .i64 (m * k)) :: G)) (hlt : Nat.blt d C.n = true := by rfl) :
    KL C dr ops Q ims L fl (⟨some d, .binOp .mul T x y T2, ty, pos, af, none⟩ :: rest) G :=
  kl_y (fun a w hf _ => by simp [go_sem, hf _ _ hx, hf _ _ hy, wrap_in hb]) h hlt
theorem kl_lss (h : KL C dr ops Q ims L fl.tail rest ((d, .bool (decide (m < k))) :: G)) (hlt : Nat.blt d C.n = true := by rfl) :
    KL C dr ops Q ims L fl (⟨some d, .binOp .lss T x y T2, ty, pos, af, none⟩ :: rest) G :=
  kl_y (fun a w hf _ => by simp [go_sem, hf _ _ hx, hf _ _ hy]) h hlt
theorem kl_leq (h : KL C dr ops Q ims L fl.tail rest ((d, .bool (decide (m ≤ k))) :: G)) (hlt : Nat.blt d C.n = true := by rfl) :
    KL C dr ops Q ims L fl (⟨some d, .binOp .leq T x y T2, ty, pos, af, none⟩ :: rest) G :=
  kl_y (fun a w hf _ => by simp [go_sem, hf _ _ hx, hf _ _ hy]) h hlt
theorem kl_gtr (h : KL C dr ops Q ims L fl.tail rest ((d, .bool (decide (k < m))) :: G)) (hlt : Nat.blt d C.n = true := by rfl) :
    KL C dr ops Q ims L fl (⟨some d, .binOp .gtr T x y T2, ty, pos, af, none⟩ :: rest) G :=
  kl_y (fun a w hf _ => by simp [go_sem, hf _ _ hx, hf _ _ hy]) h hlt
theorem kl_geq (h : KL C dr ops Q ims L fl.tail rest ((d, .bool (decide (k ≤ m))) :: G)) (hlt : Nat.blt d C.n = true := by rfl) :
    KL C dr ops Q ims L fl (⟨some d, .binOp .geq T x y T2, ty, pos, af, none⟩ :: rest) G :=
  kl_y (fun a w hf _ => by simp [go_sem, hf _ _ hx, hf _ _ hy]) h hlt
theorem kl_eql (h : KL C dr ops Q ims L fl.tail rest ((d, .bool (decide (m = k))) :: G)) (hlt : Nat.blt d C.n = true := by rfl) :
    KL C dr ops Q ims L fl (⟨some d, .binOp .eql T x y T2, ty, pos, af, none⟩ :: rest) G :=
  kl_y (fun a w hf _ => by simp [go_sem, hf _ _ hx, hf _ _ hy]; rfl) h hlt
theorem kl_neq (h : KL C dr ops Q ims L fl.tail rest ((d, .bool (decide (m ≠ k))) :: G)) (hlt : Nat.blt d C.n = true := by rfl) :
    KL C dr ops Q ims L fl (⟨some d, .binOp .neq T x y T2, ty, pos, af, none⟩ :: rest) G :=
  kl_y (fun a w hf _ => by simp [go_sem, hf _ _ hx, hf _ _ hy, bne]; rw [Bool.eq_iff_iff]; simp) h hlt
end ints
end ops
end Go.Proofs.YtojinjdobjodaaaGreat
namespace Go.Proofs.YtojinjdobjodaaaGreat
open Go
set_option linter.unusedSimpArgs false
set_option linter.unusedVariables false

/-! ### Types -/
class IsSlice (P : Program) (T : Nat) (E k bytes : outParam Nat) (z : outParam Value) : Prop where
  u : P.underlying T = some (.slice E)
  i : (P.info? E).map (fun i => (i.zero, i.size, i.bytes)) = some (some z, k, bytes)
  z : z.cells.size = k
  p : 0 < k
class OneC (P : Program) (T : Nat) : Prop where
  u : (P.underlying T).map (fun d => match d with | .struct _ => false | .array _ _ => false | _ => true) = some true
  i : (P.info? T).map (·.size) = some 1
class AggC (P : Program) (T : Nat) (k : outParam Nat) : Prop where
  u : (P.underlying T).map (fun d => match d with | .struct _ => true | _ => false) = some true
  i : (P.info? T).map (·.size) = some k
  pos : 0 < k
class ZeroC (P : Program) (T : Nat) (z : outParam Value) : Prop where
  i : (P.info? T).map (·.zero) = some (some z)
class FieldC (P : Program) (T f : Nat) (off : outParam Nat) : Prop where
  u : ∃ fs fd, P.underlying T = some (.struct fs) ∧ fs[f]? = some fd ∧ fd.offset = off ∧ ((P.info? fd.type).map (fun i => decide (i.size ≠ 0)) = some true)

theorem OneC.run {P : Program} {T : Nat} [h : OneC P T] (w : World) : (isAgg T).run P w = .ok false w := by
  have := h.u
  cases hu : P.underlying T with
  | none => rw [hu] at this; simp at this
  | some d =>
    rw [hu] at this
    simp only [isAgg, Sem.run_bind, run_underlying hu, Result.andThen]
    cases d <;> simp at this ⊢
theorem AggC.run {P : Program} {T k : Nat} [h : AggC P T k] (w : World) : (isAgg T).run P w = .ok true w := by
  have := h.u
  cases hu : P.underlying T with
  | none => rw [hu] at this; simp at this
  | some d =>
    rw [hu] at this
    simp only [isAgg, Sem.run_bind, run_underlying hu, Result.andThen]
    cases d <;> simp at this ⊢
theorem sizeOf_run {P : Program} {T k : Nat} (h : (P.info? T).map (·.size) = some k) (w : World) : (Go.sizeOf T).run P w = .ok k w := by
  cases hi : P.info? T with
  | none => rw [hi] at h; simp at h
  | some i => rw [hi] at h; simp at h; simp [Go.sizeOf, typeInfo, hi, h]
theorem zeroValue_run {P : Program} {T : Nat} {z : Value} (h : (P.info? T).map (·.zero) = some (some z)) (w : World) : (zeroValue T).run P w = .ok z w := by
  cases hi : P.info? T with
  | none => rw [hi] at h; simp at h
  | some i => rw [hi] at h; simp at h; simp [zeroValue, typeInfo, hi, h]
theorem IsSlice.size {P : Program} {T E k bytes : Nat} {z : Value} (h : IsSlice P T E k bytes z) : (P.info? E).map (·.size) = some k := by
  have := h.i
  cases hi : P.info? E with
  | none => rw [hi] at this; simp at this
  | some i => rw [hi] at this; simp at this; simp [this]
theorem IsSlice.info {P : Program} {T E k bytes : Nat} {z : Value} (h : IsSlice P T E k bytes z) : ∃ i, P.info? E = some i ∧ i.zero = some z ∧ i.size = k ∧ i.bytes = bytes := by
  have := h.i
  cases hi : P.info? E with
  | none => rw [hi] at this; simp at this
  | some i => rw [hi] at this; simp at this; exact ⟨i, rfl, this.1, this.2.1, this.2.2⟩

/-! ### Representations -/
/-- p points to cells that hold vs. -/
def At (H : Hp) (p : Value) (vs : List Value) : Prop :=
  ∃ b o cs T fz, p = .pointer (some ⟨b, o, none⟩) ∧ H b = some (.cells cs T fz) ∧ ∀ j u, vs[j]? = some u → cs[o + j]? = some u
theorem At.drop {H : Hp} {b o : Nat} {vs : List Value} (h : At H (.pointer (some ⟨b, o, none⟩)) vs) (n : Nat) : At H (.pointer (some ⟨b, o + n, none⟩)) (vs.drop n) := by
  obtain ⟨b', o', cs, T, fz, hp, hb, hc⟩ := h
  simp at hp
  obtain ⟨rfl, rfl⟩ := hp
  exact ⟨b, o + n, cs, T, fz, rfl, hb, fun j u hj => by rw [List.getElem?_drop] at hj; rw [Nat.add_assoc]; exact hc _ _ hj⟩
theorem At.sing {b T : Nat} {cs : Array Value} {fz : Nat × Nat} : At (sing b (.cells cs T fz)) (.pointer (some ⟨b, 0, none⟩)) cs.toList :=
  ⟨b, 0, cs, T, fz, rfl, by simp, fun j u hj => by simpa using hj⟩
theorem At.mono {H K : Hp} {p : Value} {vs : List Value} (h : At H p vs) (hk : ∀ b o, H b = some o → K b = some o) : At K p vs := by
  obtain ⟨b, o, cs, T, fz, hp, hb, hc⟩ := h
  exact ⟨b, o, cs, T, fz, hp, hk _ _ hb, hc⟩
theorem At.orL {H K : Hp} {p : Value} {vs : List Value} (h : At H p vs) : At (orHp H K) p vs := h.mono fun b o hb => by simp [orHp, hb]

/-- v is a slice whose elements, k cells each, are xs by R. -/
def Sl {A : Type} (H : Hp) (k : Nat) (R : List Value → A → Prop) (v : Value) (xs : List A) : Prop :=
  ∃ a c, v = .slice a xs.length c ∧ xs.length ≤ c ∧ xs.length ≤ 140737488355328 ∧
    ∀ i (h : i < xs.length), ∃ b o, a = some ⟨b, o, none⟩ ∧ ∃ vs, vs.length = k ∧ R vs xs[i] ∧ At H (.pointer (some ⟨b, o + i * k, none⟩)) vs
theorem Sl.len {A : Type} {H : Hp} {k : Nat} {R : List Value → A → Prop} {v : Value} {xs : List A} (h : Sl H k R v xs) : xs.length ≤ 140737488355328 := by
  obtain ⟨a, c, _, _, h, _⟩ := h; exact h
theorem Sl.mono {A : Type} {H K : Hp} {k : Nat} {R R' : List Value → A → Prop} {v : Value} {xs : List A} (h : Sl H k R v xs) (hk : ∀ b o, H b = some o → K b = some o) (hr : ∀ vs x, R vs x → R' vs x) : Sl K k R' v xs := by
  obtain ⟨a, c, h1, h2, h3, h4⟩ := h
  exact ⟨a, c, h1, h2, h3, fun i hi => let ⟨b, o, e, vs, l, r, t⟩ := h4 i hi; ⟨b, o, e, vs, l, hr _ _ r, t.mono hk⟩⟩

def IntC (vs : List Value) (n : Int) : Prop := vs = [.int .i64 n]
def BoolC (vs : List Value) (b : Bool) : Prop := vs = [.bool b]
def SlC {A : Type} (H : Hp) (k : Nat) (R : List Value → A → Prop) (vs : List Value) (xs : List A) : Prop := ∃ v, vs = [v] ∧ Sl H k R v xs
abbrev Ints (H : Hp) (v : Value) (xs : List Int) : Prop := Sl H 1 IntC v xs
abbrev Rows (H : Hp) (v : Value) (xs : List (List Int)) : Prop := Sl H 1 (SlC H 1 IntC) v xs
abbrev Bools (H : Hp) (v : Value) (xs : List Bool) : Prop := Sl H 1 BoolC v xs

structure Con where
  kind : Int
  vars : List Int
  args : List Int
  bound : Int
  rows : List (List Int)
structure Mod where
  doms : List Int
  cons : List Con
def ConV (H : Hp) (vs : List Value) (c : Con) : Prop :=
  ∃ a b r, vs = [.int .i64 c.kind, a, b, .int .i64 c.bound, r] ∧ Ints H a c.vars ∧ Ints H b c.args ∧ Rows H r c.rows
abbrev Cons (H : Hp) (v : Value) (cs : List Con) : Prop := Sl H 5 (ConV H) v cs
def ConR (H : Hp) (v : Value) (c : Con) : Prop := ∃ vs : List Value, v = .agg vs.toArray ∧ ConV H vs c
def ModR (H : Hp) (v : Value) (m : Mod) : Prop := ∃ a b, v = .agg #[a, b] ∧ Ints H a m.doms ∧ Cons H b m.cons

theorem cell_at {H : Hp} {w : World} (hA : Agree H w) {b o : Nat} {vs : List Value} (h : At H (.pointer (some ⟨b, o, none⟩)) vs) {j : Nat} {u : Value} (hj : vs[j]? = some u) :
    w.cell? ⟨b, o + j, none⟩ = some u := by
  obtain ⟨b', o', cs, T, fz, hp, hb, hc⟩ := h
  simp at hp
  obtain ⟨rfl, rfl⟩ := hp
  simp [World.cell?, hA _ _ hb, hc _ _ hj]

section ops
variable {C : Cx} {dr : Bool} {ops : Array Oper} {Q : Post} {ims L : List Hp} {G : Env} {fl : List Bool} {rest : List Oper}
  {d ty : Nat} {pos : String} {af : Array Edge}

/-! ### Reading -/
theorem kl_len {A : Type} {H : Hp} {k : Nat} {R : List Value → A → Prop} {v : Value} {xs : List A} {x : Operand} {T E k' by' : Nat} {z : Value} [hT : IsSlice C.P T E k' by' z]
    (hx : ev G x = some v) (hv : Sl H k R v xs) (h : xs.length ≤ 140737488355328 → KL C dr ops Q ims L fl.tail rest ((d, .int .i64 xs.length) :: G)) (hlt : Nat.blt d C.n = true := by rfl) :
    KL C dr ops Q ims L fl (⟨some d, .call ⟨.builtin .len, #[x], #[T]⟩, ty, pos, af, none⟩ :: rest) G :=
  kl_y (fun r w hr _ => by
    obtain ⟨a, c, rfl, _⟩ := hv
    simp [go_sem, hr _ _ hx, Builtin.len_, run_underlying hT.u, goInt]) (h hv.len) hlt
theorem Sl.index {A : Type} {H : Hp} {k : Nat} {R : List Value → A → Prop} {v : Value} {xs : List A} (hv : Sl H k R v xs) {i : Nat} (hi : i < xs.length) :
    ∃ p vs, vs.length = k ∧ R vs xs[i] ∧ At H p vs ∧ ∀ (P : Program) (T E by' : Nat) (z : Value), IsSlice P T E k by' z → ∀ w, (Instr.indexAt T v (.int .i64 (i : Int))).run P w = .ok p w := by
  obtain ⟨a, c, rfl, _, _, h4⟩ := hv
  obtain ⟨b, o, rfl, vs, hl, hr, hat⟩ := h4 i hi
  refine ⟨_, vs, hl, hr, hat, fun P T E by' z hT w => ?_⟩
  have hi' : ¬ xs.length ≤ i := by omega
  simp [go_sem, Instr.indexAt, run_underlying hT.u, sizeOf_run hT.size, Addr.add_lit, hi']

theorem kl_ix {A : Type} {H : Hp} {k : Nat} {R : List Value → A → Prop} {v : Value} {xs : List A} {x y : Operand} {i : Int} {T E by' : Nat} {z : Value} [hT : IsSlice C.P T E k by' z]
    (hx : ev G x = some v) (hy : ev G y = some (.int .i64 i)) (hv : Sl H k R v xs) (h0 : 0 ≤ i) (h1 : i < xs.length)
    (h : ∀ p vs, (∀ df, R vs (xs.getD i.toNat df)) → At H p vs → KL C dr ops Q ims L fl.tail rest ((d, p) :: G)) (hlt : Nat.blt d C.n = true := by rfl) :
    KL C dr ops Q ims L fl (⟨some d, .indexAddr T x y, ty, pos, af, none⟩ :: rest) G := by
  have hi : i.toNat < xs.length := by omega
  obtain ⟨p, vs, _, hR, hat, hrun⟩ := hv.index hi
  refine kl_y (v := p) (fun r w hr _ => ?_) (h p vs (fun df => by simpa [List.getD_eq_getElem?_getD, hi] using hR) hat) hlt
  have h2 := hrun C.P T E by' z hT w
  rw [Int.toNat_of_nonneg h0] at h2
  simp [go_sem, hr _ _ hx, hr _ _ hy, h2]
theorem kl_ixI {H : Hp} {v : Value} {xs : List Int} {x y : Operand} {i : Int} {T E by' : Nat} {z : Value} [hT : IsSlice C.P T E 1 by' z]
    (hx : ev G x = some v) (hy : ev G y = some (.int .i64 i)) (hv : Ints H v xs) (h0 : 0 ≤ i) (h1 : i < xs.length)
    (h : ∀ p, At H p [.int .i64 (xs.getD i.toNat 0)] → KL C dr ops Q ims L fl.tail rest ((d, p) :: G)) (hlt : Nat.blt d C.n = true := by rfl) :
    KL C dr ops Q ims L fl (⟨some d, .indexAddr T x y, ty, pos, af, none⟩ :: rest) G :=
  kl_ix hx hy hv h0 h1 (fun p vs hR hat => h p (by have := hR 0; unfold IntC at this; subst this; exact hat)) hlt
theorem kl_ixS {A : Type} {H K : Hp} {k : Nat} {R : List Value → A → Prop} {v : Value} {xs : List (List A)} {x y : Operand} {i : Int} {T E by' : Nat} {z : Value} [hT : IsSlice C.P T E 1 by' z]
    (hx : ev G x = some v) (hy : ev G y = some (.int .i64 i)) (hv : Sl H 1 (SlC K k R) v xs) (h0 : 0 ≤ i) (h1 : i < xs.length)
    (h : ∀ p u, Sl K k R u (xs.getD i.toNat []) → At H p [u] → KL C dr ops Q ims L fl.tail rest ((d, p) :: G)) (hlt : Nat.blt d C.n = true := by rfl) :
    KL C dr ops Q ims L fl (⟨some d, .indexAddr T x y, ty, pos, af, none⟩ :: rest) G :=
  kl_ix hx hy hv h0 h1 (fun p vs hR hat => by
    obtain ⟨u, hu, hs⟩ := hR []
    subst hu
    exact h p u hs hat) hlt
theorem kl_ld {H : Hp} {p v : Value} {vs : List Value} {x : Operand} {T : Nat} [hT : OneC C.P T] [hi : In H ims] (hx : ev G x = some p) (hp : At H p (v :: vs))
    (h : KL C dr ops Q ims L fl.tail rest ((d, v) :: G)) (hlt : Nat.blt d C.n = true := by rfl) : KL C dr ops Q ims L fl (⟨some d, .load T x, ty, pos, af, none⟩ :: rest) G :=
  kl_y (fun r w hr hs => by
    have hat := hp
    obtain ⟨b, o, cs, T', fz, rfl, _⟩ := hp
    have hc : w.cell? ⟨b, o, none⟩ = some v := cell_at (hs.im H hi.mem) hat (j := 0) (u := v) rfl
    simp [go_sem, hr _ _ hx, Instr.loadAt, loadVar, OneC.run, hc]) h hlt
theorem loadCells_at {P : Program} {H : Hp} {w : World} (hA : Agree H w) {b o : Nat} {vs : List Value} (h : At H (.pointer (some ⟨b, o, none⟩)) vs) :
    (loadCells ⟨b, o, none⟩ vs.length).run P w = .ok vs.toArray w :=
  run_loadCells_list w ⟨b, o, none⟩ vs fun j u hj => by rw [Addr.add_lit]; exact cell_at hA h hj
theorem kl_ldS {H : Hp} {p : Value} {vs : List Value} {x : Operand} {T k : Nat} [hT : AggC C.P T k] [hi : In H ims] (hx : ev G x = some p) (hp : At H p vs) (hk : Nat.beq vs.length k = true)
    (h : KL C dr ops Q ims L fl.tail rest ((d, .agg vs.toArray) :: G)) (hlt : Nat.blt d C.n = true := by rfl) : KL C dr ops Q ims L fl (⟨some d, .load T x, ty, pos, af, none⟩ :: rest) G :=
  kl_y (fun r w hr hs => by
    have hat := hp
    obtain ⟨b, o, cs, T', fz, rfl, _⟩ := hp
    have hc := loadCells_at (P := C.P) (hs.im H hi.mem) hat
    rw [Nat.eq_of_beq_eq_true hk] at hc
    have h1 : (Instr.loadAt T (.pointer (some ⟨b, o, none⟩))).run C.P w = .ok (.agg vs.toArray) w := by
      simp only [Instr.loadAt, Instr.sureAddr, loadVar, Sem.run_bind, Sem.run_pure, Result.andThen_ok, AggC.run, sizeOf_run hT.i, hc, if_true]
    simp only [execOp, Sem.run_bind, hr _ _ hx, h1, Result.andThen_ok, Sem.run_pure]) h hlt
theorem fieldAt_run {P : Program} {T f off : Nat} [hF : FieldC P T f off] (b o : Nat) (w : World) :
    (Instr.fieldAt T (.pointer (some ⟨b, o, none⟩)) f).run P w = .ok (.pointer (some ⟨b, o + off, none⟩)) w := by
  obtain ⟨fs, fd, hu, hf, ho, hz⟩ := hF.u
  cases hi : P.info? fd.type with
  | none => rw [hi] at hz; simp at hz
  | some i =>
    rw [hi] at hz
    simp at hz
    simp [Instr.fieldAt, run_underlying hu, hf, go_sem, fieldPlace, sizeOf_run (P := P) (T := fd.type) (k := i.size) (by simp [hi]), hz, Addr.add_lit, ho]
theorem kl_fd {H : Hp} {p : Value} {vs : List Value} {x : Operand} {T f off : Nat} [hF : FieldC C.P T f off] (hx : ev G x = some p) (hp : At H p vs)
    (h : ∀ p', At H p' (vs.drop off) → KL C dr ops Q ims L fl.tail rest ((d, p') :: G)) (hlt : Nat.blt d C.n = true := by rfl) :
    KL C dr ops Q ims L fl (⟨some d, .fieldAddr T x f, ty, pos, af, none⟩ :: rest) G := by
  have hat := hp
  obtain ⟨b, o, cs, T', fz, rfl, _⟩ := hp
  refine kl_y (fun r w hr hs => ?_) (h _ (hat.drop off)) hlt
  simp only [execOp, Sem.run_bind, hr _ _ hx, fieldAt_run, Result.andThen_ok, Sem.run_pure]
theorem kl_fdV {b o : Nat} {x : Operand} {T f off : Nat} [hF : FieldC C.P T f off] (hx : ev G x = some (.pointer (some ⟨b, o, none⟩)))
    (h : KL C dr ops Q ims L fl.tail rest ((d, .pointer (some ⟨b, o + off, none⟩)) :: G)) (hlt : Nat.blt d C.n = true := by rfl) :
    KL C dr ops Q ims L fl (⟨some d, .fieldAddr T x f, ty, pos, af, none⟩ :: rest) G :=
  kl_y (fun r w hr hs => by simp only [execOp, Sem.run_bind, hr _ _ hx, fieldAt_run, Result.andThen_ok, Sem.run_pure]) h hlt
theorem kl_nilchk {x : Operand} {a : Addr} (hx : ev G x = some (.pointer (some a)))
    (h : KL C dr ops Q ims L fl.tail rest ((d, .pointer (some a)) :: G)) (hlt : Nat.blt d C.n = true := by rfl) :
    KL C dr ops Q ims L fl (⟨some d, .nilCheck x, ty, pos, af, none⟩ :: rest) G :=
  kl_y (fun r w hr hs => by simp [go_sem, hr _ _ hx]) h hlt
theorem kl_nilchkA {H : Hp} {p : Value} {vs : List Value} {x : Operand} (hx : ev G x = some p) (hp : At H p vs)
    (h : KL C dr ops Q ims L fl.tail rest ((d, p) :: G)) (hlt : Nat.blt d C.n = true := by rfl) :
    KL C dr ops Q ims L fl (⟨some d, .nilCheck x, ty, pos, af, none⟩ :: rest) G := by
  obtain ⟨b, o, cs, T', fz, rfl, _⟩ := hp
  exact kl_nilchk hx h hlt
theorem kl_not {x : Operand} {T : Nat} {b : Bool} (hx : ev G x = some (.bool b)) (h : KL C dr ops Q ims L fl.tail rest ((d, .bool (!b)) :: G)) (hlt : Nat.blt d C.n = true := by rfl) :
    KL C dr ops Q ims L fl (⟨some d, .unOp .not T x, ty, pos, af, none⟩ :: rest) G :=
  kl_y (fun r w hr hs => by simp [go_sem, hr _ _ hx, Op.unary]) h hlt
theorem kl_mkf {f : Fn} {xs : List Operand} {vs : List Value} (hx : evs G xs = some vs) (h : KL C dr ops Q ims L fl.tail rest ((d, .func f #[] vs.toArray) :: G)) (hlt : Nat.blt d C.n = true := by rfl) :
    KL C dr ops Q ims L fl (⟨some d, .makeFunc f #[] xs.toArray, ty, pos, af, none⟩ :: rest) G :=
  kl_y (fun r w hr hs => by
    have : ∀ {xs : List Operand} {vs : List Value}, evs G xs = some vs → xs.map r = vs := by
      intro xs
      induction xs with
      | nil => intro vs h; simp [evs] at h; simp [h]
      | cons x t ih =>
        intro vs h
        simp only [evs] at h
        split at h
        · rename_i v ws h1 h2
          simp at h; subst h
          simp [hr _ _ h1, ih h2]
        · cases h
    simp [execOp, Instr.makeFunc, this hx]) h hlt
theorem kl_xt {x : Operand} {vs : List Value} {i : Nat} {v : Value} (hx : ev G x = some (.tuple vs.toArray)) (hv : vs[i]? = some v) (h : KL C dr ops Q ims L fl.tail rest ((d, v) :: G)) (hlt : Nat.blt d C.n = true := by rfl) :
    KL C dr ops Q ims L fl (⟨some d, .extract x i, ty, pos, af, none⟩ :: rest) G :=
  kl_y (fun r w hr hs => by simp [go_sem, hr _ _ hx, Instr.extract, hv]) h hlt
end ops
end Go.Proofs.YtojinjdobjodaaaGreat
namespace Go.Proofs.YtojinjdobjodaaaGreat
open Go
set_option linter.unusedSimpArgs false
set_option linter.unusedVariables false

def noHp : Hp := fun _ => none
theorem agree_no (w : World) : Agree noHp w := fun _ _ h => by cases h
def Fresh (B : World) (H : Hp) : Prop := ∀ b, H b ≠ none → B.heap.size ≤ b
/-- Rows of cells that are not frozen. -/
def Liq (H : Hp) : Prop := ∀ b o, H b = some o → ∃ cs T, o = .cells cs T (0, 0)
/-- New memory. -/
def Fr (B : World) (H : Hp) : Prop := Fresh B H ∧ Liq H
theorem fr_no (B : World) : Fr B noHp := ⟨fun _ h => absurd rfl h, fun _ _ h => by cases h⟩
theorem fr_or {B : World} {H K : Hp} (h : Fr B H) (k : Fr B K) : Fr B (orHp H K) := ⟨fun b hb => by
  by_cases hh : H b = none
  · exact k.1 b (by simpa [orHp, hh] using hb)
  · exact h.1 b hh, fun b o hb => by
  unfold orHp at hb
  cases hh : H b with
  | some x => rw [hh] at hb; simp at hb; subst hb; exact h.2 b x hh
  | none => rw [hh] at hb; simp at hb; exact k.2 b o hb⟩
theorem fresh_sing {B : World} {b : Nat} {o : Obj} (h : B.heap.size ≤ b) : Fresh B (sing b o) := fun b' hb => by
  by_cases e : b' = b
  · exact e ▸ h
  · simp [sing, e] at hb
theorem liq_sing {b T : Nat} {cs : Array Value} : Liq (sing b (.cells cs T (0, 0))) := fun b' o hb => by
  obtain ⟨rfl, rfl⟩ := sing_some hb; exact ⟨_, _, rfl⟩
theorem fr_sing {B : World} {b T : Nat} {cs : Array Value} (h : B.heap.size ≤ b) : Fr B (sing b (.cells cs T (0, 0))) := ⟨fresh_sing h, liq_sing⟩

/-- How a call ends: it returns v, writes nothing that was there; H: new memory that holds what v leads to. -/
def Res (w : World) (phi : Hp → Value → Prop) : Ending → World → Prop
  | .returned v, w' => Ext NoX w w' ∧ ∃ H, Agree H w' ∧ Fr w H ∧ phi H v
  | _, _ => False
def Spec (P : Program) (f : FuncId) (args : List Value) (ims : List Hp) (phi : Hp → Value → Prop) : Prop :=
  ∀ w, (∀ H ∈ ims, Agree H w) → Calls P f args.toArray w (Res w phi)
/-- The same where the value alone counts. -/
def SpecP (P : Program) (f : FuncId) (args : List Value) (ims : List Hp) (v0 : Value) : Prop := Spec P f args ims (fun _ v => v = v0)
theorem Spec.mono {P : Program} {f : FuncId} {args : List Value} {ims : List Hp} {p q : Hp → Value → Prop} (h : Spec P f args ims p) (hq : ∀ H v, p H v → q H v) : Spec P f args ims q :=
  fun w hA => (h w hA).mono fun e w' he => by
    cases e with
    | returned v => obtain ⟨h1, H, h2, h3, h4⟩ := he; exact ⟨h1, H, h2, h3, hq _ _ h4⟩
    | panicked c => exact he
    | outgrown => exact he
theorem SpecP.cast {P : Program} {f : FuncId} {args : List Value} {ims : List Hp} {v v' : Value} (h : SpecP P f args ims v) (e : v = v') : SpecP P f args ims v' := e ▸ h

def pars : Nat → List Value → Env
  | _, [] => []
  | k, v :: r => (k, v) :: pars (k + 1) r
theorem look_pars : ∀ (vs : List Value) (k s : Nat) (v : Value), look s (pars k vs) = some v → k ≤ s ∧ vs[s - k]? = some v
  | [], _, _, _, h => by simp [pars, look] at h
  | u :: r, k, s, v, h => by
    simp only [pars, look] at h
    by_cases e : Nat.beq s k = true
    · have := Nat.eq_of_beq_eq_true e
      subst this
      simp at h
      simp [h]
    · simp only [Bool.not_eq_true] at e
      simp only [e, cond_false] at h
      obtain ⟨h1, h2⟩ := look_pars r (k + 1) s v h
      refine ⟨by omega, ?_⟩
      have : s - k = (s - (k + 1)) + 1 := by omega
      rw [this]
      simpa using h2
theorem fit_pars {n : Nat} {vs : List Value} (h : vs.length ≤ n) : Fit (n, []) (pars 0 vs) { tmps := vs.toArray ++ Array.replicate (n - vs.toArray.size) undef, defers := [] } := by
  refine ⟨rfl, by simp; omega, fun s v hs => ?_⟩
  obtain ⟨_, h2⟩ := look_pars vs 0 s v hs
  simp at h2
  have hlt : s < vs.length := by
    rcases Nat.lt_or_ge s vs.length with h' | h'
    · exact h'
    · simp [List.getElem?_eq_none h'] at h2
  refine ⟨by omega, ?_⟩
  have h3 := (List.getElem?_eq_some_iff.1 h2).2
  simp [Array.getElem?_append, hlt, h3]

theorem spec_of {P : Program} {f : FuncId} {fn : Func} {c : Code} {vs : List Value} {n : Nat} {ims : List Hp} {phi : Hp → Value → Prop}
    (hf : P.funcs[f]? = some fn) (hb : fn.body = some c) (hn : fn.ntmps = n) (hle : Nat.ble vs.length n = true)
    (h : ∀ B, KC ⟨P, n, B, noS, false, [], none⟩ (bodyPost P fn (Res B phi)) ims [] c (pars 0 vs)) : Spec P f vs ims phi := fun w hA => by
  refine calls_of_wp hf hb ((wpIn_wide (n := 0)).1 ?_)
  rw [hn]
  exact h w _ w (fit_pars (Nat.le_of_ble_eq_true hle)) (St.init hA)

class FnC (P : Program) (g : Nat) : Prop where
  run : ∀ args w, (callFunc g args).run P w = .ok (.enter g args) w
theorem fnC_of {P : Program} {g : Nat} {fn : Func} {c : Code} (hf : P.funcs[g]? = some fn) (hb : fn.body = some c) (hn : (fn.name == "runtime.NumGoroutine") = false) : FnC P g :=
  ⟨fun args w => by
    have hn' : fn.name ≠ "runtime.NumGoroutine" := by simpa using hn
    simp [callFunc, Go.program, Sem.run, hf, hb, hn', Bind.bind, Sem.bind]⟩

/-! ### What stands behind a value -/
class Got (H : Hp) (ims L : List Hp) : Prop where
  g : ∀ {B : World} {X : Side} {w : World}, St B X ims L w → Agree H w
instance (ims L : List Hp) : Got noHp ims L := ⟨fun _ => agree_no _⟩
instance (H K : Hp) (ims L : List Hp) [h : Got H ims L] [k : Got K ims L] : Got (orHp H K) ims L := ⟨fun s => agree_or (h.g s) (k.g s)⟩
instance (H : Hp) (ims L : List Hp) [i : In H ims] : Got H ims L := ⟨fun s => s.im H i.mem⟩
instance (H : Hp) (ims L : List Hp) [i : In H L] : Got H ims L := ⟨fun s => (s.own H i.mem).1⟩

class AllGot (l ims L : List Hp) : Prop where
  g : ∀ {B : World} {X : Side} {w : World}, St B X ims L w → ∀ H ∈ l, Agree H w
instance (ims L : List Hp) : AllGot [] ims L := ⟨fun _ _ h => by cases h⟩
instance (H : Hp) (l ims L : List Hp) [h : Got H ims L] [t : AllGot l ims L] : AllGot (H :: l) ims L :=
  ⟨fun s K hK => by cases hK with | head => exact h.g s | tail _ h' => exact t.g s K h'⟩

instance (l : List Hp) (L : List Hp) : AllGot l l L := ⟨fun s => s.im⟩
instance (priority := low) (H : Hp) (l ims L : List Hp) [h : AllGot l ims L] : AllGot l (H :: ims) L := ⟨fun s => h.g (s.weak (i := ⟨fun _ h => .tail _ h⟩) (List.Sublist.refl _))⟩

section rets
variable {P : Program} {n : Nat} {B : World} {ims L : List Hp} {G : Env} {fn : Func} {phi : Hp → Value → Prop}
theorem kq_ret {t : Nat} {v : Value} (hr : fn.results = #[.tmp t]) (hv : look t G = some v) (H : Hp) [hg : Got H ims L] (hf : Fr B H) (hp : phi H v) :
    KQ ⟨P, n, B, noS, false, [], none⟩ ims L G (bodyPost P fn (Res B phi) .ret) := fun a w hF hS => by
  refine ⟨hF.defers, v, ?_, hS.toExt, H, hg.g hS, hf, hp⟩
  rw [results_tmp hr, (hF.get t v hv).2]
theorem kq_retP {t : Nat} {v : Value} (hr : fn.results = #[.tmp t]) (hv : look t G = some v) (hp : phi noHp v) :
    KQ ⟨P, n, B, noS, false, [], none⟩ ims L G (bodyPost P fn (Res B phi) .ret) := kq_ret hr hv noHp (fr_no B) hp
end rets

/-! ### Changes of what is owned -/
inductive UpdR (H H' : Hp) : List Hp → List Hp → Prop
  | head (L : List Hp) : UpdR H H' (H :: L) (H' :: L)
  | tail (K : Hp) {L L' : List Hp} (h : UpdR H H' L L') : UpdR H H' (K :: L) (K :: L')
class Upd (H H' : Hp) (L : List Hp) (L' : outParam (List Hp)) : Prop where u : UpdR H H' L L'
instance (H H' : Hp) (L : List Hp) : Upd H H' (H :: L) (H' :: L) := ⟨.head L⟩
instance (priority := low) (H H' K : Hp) (L L' : List Hp) [h : Upd H H' L L'] : Upd H H' (K :: L) (K :: L') := ⟨.tail K h.u⟩
theorem UpdR.mem {H H' : Hp} : ∀ {L L' : List Hp}, UpdR H H' L L' → H ∈ L
  | _, _, .head _ => .head _
  | _, _, .tail _ h => .tail _ h.mem
theorem UpdR.mem' {H H' K : Hp} : ∀ {L L' : List Hp}, UpdR H H' L L' → K ∈ L' → K = H' ∨ K ∈ L
  | _, _, .head _, h => by
    cases h with
    | head => exact .inl rfl
    | tail _ h => exact .inr (.tail _ h)
  | _, _, .tail _ u, h => by
    cases h with
    | head => exact .inr (.head _)
    | tail _ h => exact (u.mem' h).imp id (.tail _)
/-- H may be written, and may be left for new memory. -/
theorem St.upd {B : World} {X : Side} {ims L L' : List Hp} {w w' : World} {H H' : Hp} (h : St B X ims L w) [u : Upd H H' L L']
    (hs : w.heap.size ≤ w'.heap.size) (e : ∀ b, b < w.heap.size → H b = none → w'.heap[b]? = w.heap[b]?) (hA : Agree H' w') (hd : ∀ b, H' b ≠ none → H b ≠ none ∨ w.heap.size ≤ b) (hio : Io w w') : St B X ims L' w' := by
  obtain ⟨u⟩ := u
  have hH := h.own H u.mem
  have other : ∀ K : Hp, Agree K w → Apart H K → Agree K w' ∧ Apart H' K := fun K hK hap => by
    refine ⟨fun b o hb => ?_, fun b => ?_⟩
    · have hn : H b = none := (hap b).resolve_right (by rw [hb]; simp)
      exact (e b (hK.lt hb) hn).trans (hK b o hb)
    · by_cases hk : K b = none
      · exact .inr hk
      · left
        cases hh : H' b with
        | none => rfl
        | some o =>
          rcases hd b (by rw [hh]; simp) with h1 | h1
          · exact absurd ((hap b).resolve_left h1) hk
          · cases hkb : K b with
            | none => exact absurd hkb hk
            | some o' => exact absurd h1 (Nat.not_le.2 (hK.lt hkb))
  have him : ∀ I ∈ ims, Agree I w' ∧ Apart H' I := fun I hI => other I (h.im I hI) (hH.2.2 I hI)
  have hown : ∀ {L L' : List Hp}, UpdR H H' L L' → (∀ K ∈ L, Agree K w) → L.Pairwise Apart → (∀ K ∈ L', K ≠ H' → Agree K w') ∧ L'.Pairwise Apart ∧ True := by
    intro L L' u
    induction u with
    | head L =>
      intro hK hp
      have hp' := List.pairwise_cons.1 hp
      have ho : ∀ K ∈ L, Agree K w' ∧ Apart H' K := fun K hm => other K (hK K (.tail _ hm)) (hp'.1 K hm)
      refine ⟨fun K hm hne => ?_, List.pairwise_cons.2 ⟨fun K hm => (ho K hm).2, hp'.2⟩, trivial⟩
      cases hm with
      | head => exact absurd rfl hne
      | tail _ hm => exact (ho K hm).1
    | tail K0 u' ih =>
      intro hK hp
      have hp' := List.pairwise_cons.1 hp
      obtain ⟨i1, i2, _⟩ := ih (fun K hm => hK K (.tail _ hm)) hp'.2
      have hap0 : Apart H K0 := fun b => ((hp'.1 H u'.mem) b).symm
      have o0 := other K0 (hK K0 (.head _)) hap0
      refine ⟨fun K hm hne => ?_, List.pairwise_cons.2 ⟨fun K hm => ?_, i2⟩, trivial⟩
      · cases hm with
        | head => exact o0.1
        | tail _ hm => exact i1 K hm hne
      · rcases u'.mem' hm with rfl | hm
        · exact fun b => (o0.2 b).symm
        · exact hp'.1 K hm
  obtain ⟨o1, o2, _⟩ := hown u (fun K hK => (h.own K hK).1) h.nd
  refine h.turn hs (fun b hb hn => e b hb (Classical.byContradiction fun hc => hn (.inl ⟨H, u.mem, hc⟩))) hio (fun b hb => ?_) (fun b hb hx => ?_) (fun I hI => (him I hI).1) (fun K hK => ?_) o2
  · rcases hb with ⟨K, hK, hb⟩ | hb
    · rcases u.mem' hK with rfl | hm
      · exact (hd b hb).imp (fun h1 => .inl ⟨H, u.mem, h1⟩) id
      · exact .inl (.inl ⟨K, hm, hb⟩)
    · exact .inl (.inr hb)
  · have hn : H b = none := by
      cases hh : H b with
      | none => rfl
      | some o =>
        rcases hH.2.1 b (by rw [hh]; simp) with h1 | h1
        · exact absurd hb (Nat.not_lt.2 h1)
        · exact absurd h1 hx
    exact (e b (Nat.lt_of_lt_of_le hb h.size) hn).trans (h.ext b hb hx)
  · by_cases hk : K = H'
    · subst hk
      refine ⟨hA, fun b hb => ?_, fun I hI => (him I hI).2⟩
      rcases hd b hb with h1 | h1
      · exact hH.2.1 b h1
      · exact .inl (Nat.le_trans h.size h1)
    · rcases u.mem' hK with rfl | hm
      · exact absurd rfl hk
      · exact ⟨o1 K hK hk, (h.own K hm).2⟩

theorem ext_alloc (w : World) (o : Obj) : Ext NoX w (w.alloc o) := ⟨by simp, fun b hb _ => by show (w.heap.push o)[b]? = _; simp [Array.getElem?_push, Nat.ne_of_lt hb], ⟨rfl, rfl⟩⟩
theorem agree_alloc (w : World) (o : Obj) : Agree (sing w.heap.size o) (w.alloc o) := fun b o' hb => by
  obtain ⟨rfl, rfl⟩ := sing_some hb
  show (w.heap.push o')[w.heap.size]? = _
  simp

section acts
variable {C : Cx} {dr : Bool} {ops : Array Oper} {Q : Post} {ims L : List Hp} {G : Env} {fl : List Bool} {rest : List Oper}
  {d ty : Nat} {pos : String} {af : Array Edge}

theorem kl_act {o : Oper} (hg : o.guard = none) (hfl : fl.headD false = false)
    (ha : ∀ a w, Fit C.m G a → St C.B C.X ims L w → o.wp C.P a w (fun a' w' => ∃ ims2 L2 G2, (rest = [] ∨ (dr = true → ∀ u, St C.B C.X ims2 (C.W L2) u → St C.B C.X ims (C.W L) u)) ∧
      Fit C.m G2 a' ∧ St C.B C.X ims2 L2 w' ∧ KL C dr ops Q ims2 L2 fl.tail rest G2) (fun _ _ _ => False)) : KL C dr ops Q ims L fl (o :: rest) G := fun a w hf hs => by
  unfold wpSeq
  rw [if_pos (by simp [Region.wanted, hg])]
  refine .inr ⟨fun _ => hfl, oper_wp_noPanic (Q := fun _ _ _ => False) (fun a' w' h => ?_) (ha a w hf hs)⟩
  obtain ⟨ims2, L2, G2, h1, h2, h3, h4⟩ := h
  exact ⟨St C.B C.X ims2 (C.W L2), h1.imp id (fun h => ⟨h3.w, h⟩), h4 a' w' h2 h3⟩

/-- An operation that makes a block. -/
theorem kl_new {op : Op} {o : Obj} {v : Nat → Value} (hrun : ∀ (r : Operand → Value) w, Ev G r → (execOp r ⟨some d, op, ty, pos, af, none⟩).run C.P w = .ok (.value (v w.heap.size)) (w.alloc o))
    (h : ∀ b, C.B.heap.size ≤ b → KL C dr ops Q ims (sing b o :: L) fl.tail rest ((d, v b) :: G)) (hlt : Nat.blt d C.n = true) (hfl : fl.headD false = false) :
    KL C dr ops Q ims L fl (⟨some d, op, ty, pos, af, none⟩ :: rest) G :=
  kl_act rfl hfl fun a w hf hs => by
    unfold Oper.wp
    rw [hrun a.eval w hf.toEv]
    exact ⟨ims, _, _, .inr (fun _ u hu => hu.wl (.cons _ (List.Sublist.refl _))), hf.put (by simpa [Nat.blt_eq, Cx.m] using hlt), hs.push (ext_alloc w o) (agree_alloc w o) (fresh_sing (B := w) (Nat.le_refl _)), h w.heap.size hs.size⟩
/-- The same, the block written no more. -/
theorem kl_newI {op : Op} {o : Obj} {v : Nat → Value} (hrun : ∀ (r : Operand → Value) w, Ev G r → (execOp r ⟨some d, op, ty, pos, af, none⟩).run C.P w = .ok (.value (v w.heap.size)) (w.alloc o))
    (h : ∀ b, C.B.heap.size ≤ b → KL C dr ops Q (sing b o :: ims) L fl.tail rest ((d, v b) :: G)) (hlt : Nat.blt d C.n = true) (hfl : fl.headD false = false) :
    KL C dr ops Q ims L fl (⟨some d, op, ty, pos, af, none⟩ :: rest) G :=
  kl_act rfl hfl fun a w hf hs => by
    unfold Oper.wp
    rw [hrun a.eval w hf.toEv]
    exact ⟨sing w.heap.size o :: ims, L, _, .inr (fun _ u hu => hu.weak (i := ⟨fun a ha => .tail _ ha⟩) (List.Sublist.refl _)), hf.put (by simpa [Nat.blt_eq, Cx.m] using hlt),
      hs.pushIm (ext_alloc w o) (agree_alloc w o) (fresh_sing (B := w) (Nat.le_refl _)), h w.heap.size hs.size⟩

theorem box_run {P : Program} {T : Nat} {x : Operand} {v : Value} {cs : Array Value} (hc : v.cells = cs) (r : Operand → Value) (w : World) (hr : r x = v) :
    (execOp r ⟨some d, .box T x, ty, pos, af, none⟩).run P w = .ok (.value (.pointer (some ⟨w.heap.size, 0, none⟩))) (w.alloc (.cells cs T)) := by
  subst hc
  simp only [execOp, Instr.box, newVar, newRow, newObj, Sem.run_bind, Sem.run_pure, hr]
  rfl
/-- A box that is written no more. -/
theorem kl_box {T : Nat} {x : Operand} {v : Value} {cs : List Value} (hx : ev G x = some v) (hc : v.cells = cs.toArray)
    (h : ∀ p H, Fr C.B H → At H p cs → KL C dr ops Q (H :: ims) L fl.tail rest ((d, p) :: G)) (hlt : Nat.blt d C.n = true := by rfl) (hfl : fl.headD false = false := by rfl) :
    KL C dr ops Q ims L fl (⟨some d, .box T x, ty, pos, af, none⟩ :: rest) G :=
  kl_newI (v := fun b => .pointer (some ⟨b, 0, none⟩)) (fun r w hr => box_run hc r w (hr _ _ hx)) (fun b hb => h _ _ (fr_sing hb) (by simpa using At.sing (b := b) (T := T) (cs := cs.toArray) (fz := (0, 0)))) hlt hfl
/-- A box that is written. -/
theorem kl_boxL {T : Nat} {x : Operand} {v : Value} {cs : List Value} (hx : ev G x = some v) (hc : v.cells = cs.toArray)
    (h : ∀ b, C.B.heap.size ≤ b → KL C dr ops Q ims (sing b (.cells cs.toArray T) :: L) fl.tail rest ((d, .pointer (some ⟨b, 0, none⟩)) :: G)) (hlt : Nat.blt d C.n = true := by rfl) (hfl : fl.headD false = false := by rfl) :
    KL C dr ops Q ims L fl (⟨some d, .box T x, ty, pos, af, none⟩ :: rest) G :=
  kl_new (v := fun b => .pointer (some ⟨b, 0, none⟩)) (fun r w hr => box_run hc r w (hr _ _ hx)) h hlt hfl
theorem kl_alloc {T : Nat} {z : Value} {cs : List Value} [hz : ZeroC C.P T z] (hc : z.cells = cs.toArray)
    (h : ∀ b, C.B.heap.size ≤ b → KL C dr ops Q ims (sing b (.cells cs.toArray T) :: L) fl.tail rest ((d, .pointer (some ⟨b, 0, none⟩)) :: G)) (hlt : Nat.blt d C.n = true := by rfl) (hfl : fl.headD false = false := by rfl) :
    KL C dr ops Q ims L fl (⟨some d, .alloc T, ty, pos, af, none⟩ :: rest) G :=
  kl_new (v := fun b => .pointer (some ⟨b, 0, none⟩)) (fun r w hr => by
    simp only [execOp, Instr.alloc, newVar, newRow, newObj, Sem.run_bind, Sem.run_pure, zeroValue_run hz.i, Result.andThen_ok, hc]
    rfl) h hlt hfl

/-! Calls. -/
theorem kl_call {f : Operand} {xs : List Operand} {ats : Array Nat} {g : Nat} {cap : Array Value} {vs : List Value} {ims' : List Hp} {phi : Hp → Value → Prop} [hb : FnC C.P g]
    (hf : ev G f = some (.func (.func g) #[] cap)) (ha : evs G xs = some vs) (hs : Spec C.P g (vs ++ cap.toList) ims' phi) [hi : AllGot ims' ims L]
    (h : ∀ v H, Fr C.B H → phi H v → KL C dr ops Q (H :: ims) L fl.tail rest ((d, v) :: G)) (hlt : Nat.blt d C.n = true := by rfl) (hfl : fl.headD false = false := by rfl) :
    KL C dr ops Q ims L fl (⟨some d, .call ⟨.value f, xs.toArray, ats⟩, ty, pos, af, none⟩ :: rest) G :=
  kl_act rfl hfl fun a w hF hS => by
    have hrun : (execOp a.eval ⟨some d, .call ⟨.value f, xs.toArray, ats⟩, ty, pos, af, none⟩).run C.P w = .ok (.enter g (vs ++ cap.toList).toArray) w := by
      have h1 : xs.map a.eval = vs := hF.evs ha
      simp only [execOp, resolve, hF.ev hf, Deferred.ofValue, Sem.run_bind, Sem.run_pure, Result.andThen_ok, invoke, List.map_toArray, h1]
      rw [hb.run]
      simp
    unfold Oper.wp
    rw [hrun]
    refine (hs w (fun H hH => hi.g hS H hH)).mono fun e w' he => ?_
    cases e with
    | returned v =>
      obtain ⟨h1, H, h2, h3, h4⟩ := he
      exact ⟨H :: ims, L, _, .inr (fun _ u hu => hu.weak (i := ⟨fun a ha => .tail _ ha⟩) (List.Sublist.refl _)), hF.put (by simpa [Nat.blt_eq, Cx.m] using hlt),
        hS.pushIm h1 h2 h3.1, h v H ⟨fun b hb => Nat.le_trans hS.size (h3.1 b hb), h3.2⟩ h4⟩
    | panicked c => exact he
    | outgrown => exact he.elim
theorem kl_callP {f : Operand} {xs : List Operand} {ats : Array Nat} {g : Nat} {cap : Array Value} {vs : List Value} {ims' : List Hp} {v0 : Value} [hb : FnC C.P g]
    (hf : ev G f = some (.func (.func g) #[] cap)) (ha : evs G xs = some vs) (hs : SpecP C.P g (vs ++ cap.toList) ims' v0) [hi : AllGot ims' ims L]
    (h : KL C dr ops Q ims L fl.tail rest ((d, v0) :: G)) (hlt : Nat.blt d C.n = true := by rfl) (hfl : fl.headD false = false := by rfl) :
    KL C dr ops Q ims L fl (⟨some d, .call ⟨.value f, xs.toArray, ats⟩, ty, pos, af, none⟩ :: rest) G :=
  kl_act rfl hfl fun a w hF hS => by
    have hrun : (execOp a.eval ⟨some d, .call ⟨.value f, xs.toArray, ats⟩, ty, pos, af, none⟩).run C.P w = .ok (.enter g (vs ++ cap.toList).toArray) w := by
      have h1 : xs.map a.eval = vs := hF.evs ha
      simp only [execOp, resolve, hF.ev hf, Deferred.ofValue, Sem.run_bind, Sem.run_pure, Result.andThen_ok, invoke, List.map_toArray, h1]
      rw [hb.run]
      simp
    unfold Oper.wp
    rw [hrun]
    refine (hs w (fun H hH => hi.g hS H hH)).mono fun e w' he => ?_
    cases e with
    | returned v =>
      obtain ⟨h1, H, h2, h3, h4⟩ := he
      subst h4
      exact ⟨ims, L, _, .inr (fun _ u hu => hu), hF.put (by simpa [Nat.blt_eq, Cx.m] using hlt), hS.call h1, h⟩
    | panicked c => exact he
    | outgrown => exact he.elim
end acts
end Go.Proofs.YtojinjdobjodaaaGreat
namespace Go.Proofs.YtojinjdobjodaaaGreat
open Go
set_option linter.unusedSimpArgs false
set_option linter.unusedVariables false

theorem pn {G : Env} : Pick G [] := .nil
theorem pc {G G' : Env} (k : Nat) {v : Value} (h : look k G = some v) (t : Pick G G') : Pick G ((k, v) :: G') := .cons h t
def nilCon : Con := ⟨0, [], [], 0, []⟩
theorem Sl.cells {A : Type} {H : Hp} {k : Nat} {R : List Value → A → Prop} {v : Value} {xs : List A} (h : Sl H k R v xs) : v.cells = [v].toArray := by
  obtain ⟨a, c, rfl, _⟩ := h; rfl
theorem Sl.oneCell {A : Type} {H : Hp} {k : Nat} {R : List Value → A → Prop} {v : Value} {xs : List A} (h : Sl H k R v xs) : v.oneCell' = true := by
  obtain ⟨a, c, rfl, _⟩ := h; rfl
theorem Sl.nil {A : Type} {H : Hp} {k : Nat} {R : List Value → A → Prop} : Sl H k R (.slice none 0 0) [] := ⟨none, 0, rfl, Nat.le_refl _, by simp, fun i h => absurd h (Nat.not_lt_zero i)⟩
class IsBool (P : Program) (T : Nat) : Prop where u : P.underlying T = some .bool

section codes
variable {C : Cx} {Q : Post} {ims L : List Hp} {G : Env}
/-- A loop that leaves the heaplets as they are. -/
theorem kc_loop0 {A : Type} {body : Code} (J : A → Prop) (mu : A → Nat) (Gf : A → Env) (x0 : A) {Gx : Env} (hx : Pick G Gx) (hg : Pick G (Gf x0)) (h0 : J x0)
    (round : ∀ x, J x → KC C (Exit.then (fun a w => ∃ x', mu x' < mu x ∧ J x' ∧ Fit C.m (Gf x' ++ Gx) a ∧ St C.B C.X ims L w) Q) ims L body (Gf x ++ Gx)) :
    KC C Q ims L (.loop body) G :=
  kc_loop J mu (fun _ => []) (fun _ => L) Gf x0 (ims0 := ims) hx hg rfl rfl h0 round
theorem kq_round0 {A : Type} {J : A → Prop} {mu : A → Nat} {Gf : A → Env} {x : A} {Gx : Env} {ims0 L0 : List Hp} (x' : A)
    (hlt : mu x' < mu x) (hJ : J x') (hg : Pick G (Gf x')) (hx : Pick G Gx) [hi : AllIn ims0 ims] (hs : List.Sublist L0 L) :
    KQ C ims L G (fun a w => ∃ x', mu x' < mu x ∧ J x' ∧ Fit C.m (Gf x' ++ Gx) a ∧ St C.B C.X ims0 L0 w) :=
  fun _ _ hf hs' => ⟨x', hlt, hJ, (hg.app hx).fit hf, hs'.weak hs⟩
/-- A loop whose owned heaplets are a function of its state. -/
theorem kc_loopL {A : Type} {body : Code} (J : A → Prop) (mu : A → Nat) (Lf : A → List Hp) (Gf : A → Env) (x0 : A) {Gx : Env} (hx : Pick G Gx) (hg : Pick G (Gf x0)) (hl : L = Lf x0) (h0 : J x0)
    (round : ∀ x, J x → KC C (Exit.then (fun a w => ∃ x', mu x' < mu x ∧ J x' ∧ Fit C.m (Gf x' ++ Gx) a ∧ St C.B C.X ims (Lf x') w) Q) ims (Lf x) body (Gf x ++ Gx)) :
    KC C Q ims L (.loop body) G :=
  kc_loop J mu (fun _ => []) Lf Gf x0 (ims0 := ims) hx hg rfl hl h0 round
theorem kq_roundL {A : Type} {J : A → Prop} {mu : A → Nat} {Lf : A → List Hp} {Gf : A → Env} {x : A} {Gx : Env} {ims0 L0 : List Hp} (x' : A)
    (hlt : mu x' < mu x) (hJ : J x') (hg : Pick G (Gf x')) (hx : Pick G Gx) (hl : L0 = Lf x') [hi : AllIn ims0 ims] (hs : List.Sublist L0 L) :
    KQ C ims L G (fun a w => ∃ x', mu x' < mu x ∧ J x' ∧ Fit C.m (Gf x' ++ Gx) a ∧ St C.B C.X ims0 (Lf x') w) :=
  fun _ _ hf hs' => ⟨x', hlt, hJ, (hg.app hx).fit hf, by subst hl; exact hs'.weak hs⟩
end codes

section ops
variable {C : Cx} {dr : Bool} {ops : Array Oper} {Q : Post} {ims L : List Hp} {G : Env} {fl : List Bool} {rest : List Oper}
  {d ty : Nat} {pos : String} {af : Array Edge}

theorem kl_join {l : List Oper} {G' : Env} (m d : Nat) (v : Value) (_hp : Pick G G')
    (h : (∀ G2, Pick G2 ((d, v) :: G') → KL C dr ops Q ims L (fl.drop m) (l.drop m) G2) → KL C dr ops Q ims L fl l G)
    (hJ : KL C dr ops Q ims L (fl.drop m) (l.drop m) ((d, v) :: G')) : KL C dr ops Q ims L fl l G :=
  h (fun _ hp2 => kl_pick hp2 hJ)
section bools
variable {c x y : Operand} {b q : Bool}
theorem kl_andT (hc : ev G c = some (.bool b)) (hx : ev G x = some (.bool q)) (hb : b = true) (h : KL C dr ops Q ims L fl.tail rest ((d, .bool (b && q)) :: G)) (hlt : Nat.blt d C.n = true := by rfl) :
    KL C dr ops Q ims L fl (⟨some d, .pick c x y, ty, pos, af, none⟩ :: rest) G := by
  subst hb; exact kl_pickT hc rfl hx h hlt
theorem kl_andF (q : Bool) (hc : ev G c = some (.bool b)) (hy : ev G y = some (.bool false)) (hb : b = false) (h : KL C dr ops Q ims L fl.tail rest ((d, .bool (b && q)) :: G)) (hlt : Nat.blt d C.n = true := by rfl) :
    KL C dr ops Q ims L fl (⟨some d, .pick c x y, ty, pos, af, none⟩ :: rest) G := by
  subst hb; exact kl_pickF hc rfl hy h hlt
theorem kl_orF (hc : ev G c = some (.bool b)) (hy : ev G y = some (.bool q)) (hb : b = false) (h : KL C dr ops Q ims L fl.tail rest ((d, .bool (b || q)) :: G)) (hlt : Nat.blt d C.n = true := by rfl) :
    KL C dr ops Q ims L fl (⟨some d, .pick c x y, ty, pos, af, none⟩ :: rest) G := by
  subst hb; exact kl_pickF hc rfl hy h hlt
theorem kl_orT (q : Bool) (hc : ev G c = some (.bool b)) (hx : ev G x = some (.bool true)) (hb : b = true) (h : KL C dr ops Q ims L fl.tail rest ((d, .bool (b || q)) :: G)) (hlt : Nat.blt d C.n = true := by rfl) :
    KL C dr ops Q ims L fl (⟨some d, .pick c x y, ty, pos, af, none⟩ :: rest) G := by
  subst hb; exact kl_pickT hc rfl hx h hlt
end bools
theorem kl_inc {x y : Operand} {T T2 : Nat} {k : Nat} (hx : ev G x = some (.int .i64 (k : Int))) (hy : ev G y = some (.int .i64 1)) (hb : k < 9223372036854775807)
    (h : KL C dr ops Q ims L fl.tail rest ((d, .int .i64 ((k + 1 : Nat) : Int)) :: G)) (hlt : Nat.blt d C.n = true := by rfl) :
    KL C dr ops Q ims L fl (⟨some d, .binOp .add T x y T2, ty, pos, af, none⟩ :: rest) G := kl_add hx hy (by omega) h hlt
theorem kl_bne {x y : Operand} {T T2 : Nat} {p q : Bool} [hT : IsBool C.P T] (hx : ev G x = some (.bool p)) (hy : ev G y = some (.bool q))
    (h : KL C dr ops Q ims L fl.tail rest ((d, .bool (p != q)) :: G)) (hlt : Nat.blt d C.n = true := by rfl) :
    KL C dr ops Q ims L fl (⟨some d, .binOp .neq T x y T2, ty, pos, af, none⟩ :: rest) G :=
  kl_y (fun r w hr _ => by simp [go_sem, hr _ _ hx, hr _ _ hy, run_neq_bool w T p q hT.u]; cases p <;> cases q <;> rfl) h hlt

section index
variable {x y : Operand} {i : Nat} {T E by' : Nat} {z : Value}
theorem kl_inI {H : Hp} {v : Value} {xs : List Int} [hT : IsSlice C.P T E 1 by' z] (hx : ev G x = some v) (hy : ev G y = some (.int .i64 (i : Int))) (hv : Ints H v xs) (h1 : i < xs.length)
    (h : ∀ p, At H p [.int .i64 (xs.getD i 0)] → KL C dr ops Q ims L fl.tail rest ((d, p) :: G)) (hlt : Nat.blt d C.n = true := by rfl) :
    KL C dr ops Q ims L fl (⟨some d, .indexAddr T x y, ty, pos, af, none⟩ :: rest) G := kl_ixI hx hy hv (by omega) (by omega) h hlt
theorem kl_inS {A : Type} {H K : Hp} {k : Nat} {R : List Value → A → Prop} {v : Value} {xs : List (List A)} [hT : IsSlice C.P T E 1 by' z] (hx : ev G x = some v) (hy : ev G y = some (.int .i64 (i : Int)))
    (hv : Sl H 1 (SlC K k R) v xs) (h1 : i < xs.length)
    (h : ∀ p u, Sl K k R u (xs.getD i []) → At H p [u] → KL C dr ops Q ims L fl.tail rest ((d, p) :: G)) (hlt : Nat.blt d C.n = true := by rfl) :
    KL C dr ops Q ims L fl (⟨some d, .indexAddr T x y, ty, pos, af, none⟩ :: rest) G := kl_ixS hx hy hv (by omega) (by omega) h hlt
theorem kl_inC {H K : Hp} {v : Value} {xs : List Con} [hT : IsSlice C.P T E 5 by' z] (hx : ev G x = some v) (hy : ev G y = some (.int .i64 (i : Int))) (hv : Sl H 5 (ConV K) v xs) (h1 : i < xs.length)
    (h : ∀ p a b r, Ints K a (xs.getD i nilCon).vars → Ints K b (xs.getD i nilCon).args → Rows K r (xs.getD i nilCon).rows →
      At H p [.int .i64 (xs.getD i nilCon).kind, a, b, .int .i64 (xs.getD i nilCon).bound, r] → KL C dr ops Q ims L fl.tail rest ((d, p) :: G)) (hlt : Nat.blt d C.n = true := by rfl) :
    KL C dr ops Q ims L fl (⟨some d, .indexAddr T x y, ty, pos, af, none⟩ :: rest) G :=
  kl_ix hx hy hv (by omega) (by omega) (fun p vs hR hat => by
    obtain ⟨a, b, r, rfl, ha, hb, hr⟩ := hR nilCon
    exact h p a b r ha hb hr hat) hlt
end index

/-! Slices of slices. -/
theorem Sl.takeR {A : Type} {H : Hp} {k : Nat} {R : List Value → A → Prop} {v : Value} {xs : List A} (hv : Sl H k R v xs) {i : Nat} (hi : i ≤ xs.length) :
    ∃ u, Sl H k R u (xs.take i) ∧ ∀ (P : Program) (T E k' by' : Nat) (z : Value), IsSlice P T E k' by' z → ∀ w, (Instr.sliceAt T v none (some (.int .i64 (i : Int))) none).run P w = .ok u w := by
  obtain ⟨a, c, rfl, h1, h2, h3⟩ := hv
  have hl : (xs.take i).length = i := by simp; omega
  refine ⟨.slice a i c, ⟨a, c, by rw [hl], by omega, by omega, fun j hj => ?_⟩, fun P T E k' by' z hT w => ?_⟩
  · obtain ⟨b, o, e, vs, l, r, t⟩ := h3 j (by omega)
    exact ⟨b, o, e, vs, l, by simpa using r, t⟩
  · have hi' : i ≤ c := by omega
    by_cases hc : c = 0
    · have hi0 : i = 0 := by omega
      subst hi0 hc
      simp [Instr.sliceAt, run_underlying hT.u, Instr.slice, Instr.sliceBounds, Instr.sliceBound, asIntOf, go_sem, sizeOf_run hT.size]
    · cases a with
      | none => simp [Instr.sliceAt, run_underlying hT.u, Instr.slice, Instr.sliceBounds, Instr.sliceBound, asIntOf, go_sem, sizeOf_run hT.size, hi']
      | some a => simp [Instr.sliceAt, run_underlying hT.u, Instr.slice, Instr.sliceBounds, Instr.sliceBound, asIntOf, go_sem, sizeOf_run hT.size, hi', Addr.add]
theorem kl_slTake {A : Type} {H : Hp} {k : Nat} {R : List Value → A → Prop} {v : Value} {xs : List A} {x y : Operand} {i : Nat} {T E k' by' : Nat} {z : Value} [hT : IsSlice C.P T E k' by' z]
    (hx : ev G x = some v) (hy : ev G y = some (.int .i64 (i : Int))) (hv : Sl H k R v xs) (h1 : i ≤ xs.length)
    (h : ∀ u, Sl H k R u (xs.take i) → KL C dr ops Q ims L fl.tail rest ((d, u) :: G)) (hlt : Nat.blt d C.n = true := by rfl) :
    KL C dr ops Q ims L fl (⟨some d, .slice T x none (some y) none, ty, pos, af, none⟩ :: rest) G := by
  obtain ⟨u, hu, hrun⟩ := hv.takeR h1
  refine kl_y (fun r w hr _ => ?_) (h u hu) hlt
  simp only [execOp, Sem.run_bind, hr _ _ hx, hr _ _ hy, Option.map_some, Option.map_none, hrun C.P T E k' by' z hT, Result.andThen_ok, Sem.run_pure]
end ops
end Go.Proofs.YtojinjdobjodaaaGreat
