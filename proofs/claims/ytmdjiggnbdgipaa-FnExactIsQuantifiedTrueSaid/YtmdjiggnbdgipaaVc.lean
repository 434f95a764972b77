/- The base of the walks: judgements over frames of which some slots are known, heaplets, and one law for each operation. Conditions: none. -/
import Derived.Test.YtmdjiggnbdgipaaChecked
import Derived.OrdersHeld
import Derived.Tactics
import Derived.Deep.RegionHeld3
namespace Go.Proofs.Ytmdjiggnbdgipaa
open Go

/-! ### Frames: what is known of the temporaries -/
abbrev Env := List (Nat × Value)
def look (s : Nat) : Env → Option Value
  | [] => none
  | (k, v) :: r => bif Nat.beq s k then some v else look s r

structure Fit (n : Nat) (G : Env) (a : Act) : Prop where
  defers : a.defers = []
  size : a.tmps.size = n
  get : ∀ s v, look s G = some v → s < n ∧ a.tmps.getD s undef = v

theorem Fit.put {n : Nat} {G : Env} {a : Act} {d : Nat} {v : Value} (h : Fit n G a) (hd : d < n) : Fit n ((d, v) :: G) (a.put (some d) v) := by
  refine ⟨h.defers, by simp [Act.put, h.size], fun s u hs => ?_⟩
  simp only [look] at hs
  by_cases e : s = d
  · subst e
    simp at hs
    subst hs
    refine ⟨hd, ?_⟩
    simp [Act.put, Array.getD, h.size, hd]
  · have : Nat.beq s d = false := by
      cases hb : Nat.beq s d
      · rfl
      · exact absurd (Nat.eq_of_beq_eq_true hb) e
    simp only [this, cond_false] at hs
    obtain ⟨h1, h2⟩ := h.get s u hs
    refine ⟨h1, ?_⟩
    rw [← h2]
    have e' : d ≠ s := fun x => e x.symm
    simp [Act.put, Array.getD, h.size, h1, e']

theorem Fit.putNone {n : Nat} {G : Env} {a : Act} {v : Value} (h : Fit n G a) : Fit n G (a.put none v) := h

def ev (G : Env) : Operand → Option Value
  | .tmp t => look t G
  | .const v => some v
  | .global g => some (.pointer (some ⟨g, 0, none⟩))
  | .func f => some (.func (.func f) #[] #[])

theorem Fit.ev {n : Nat} {G : Env} {a : Act} (h : Fit n G a) {x : Operand} {v : Value} (hx : ev G x = some v) : a.eval x = v := by
  cases x with
  | tmp t => exact (h.get t v hx).2
  | const u => simpa [Proofs.Ytmdjiggnbdgipaa.ev, Act.eval] using hx
  | global g => simpa [Proofs.Ytmdjiggnbdgipaa.ev, Act.eval] using hx
  | func f => simpa [Proofs.Ytmdjiggnbdgipaa.ev, Act.eval] using hx

def evs (G : Env) : List Operand → Option (List Value)
  | [] => some []
  | x :: r => match ev G x, evs G r with
    | some v, some vs => some (v :: vs)
    | _, _ => none

theorem Fit.evs {n : Nat} {G : Env} {a : Act} (h : Fit n G a) : ∀ {xs : List Operand} {vs : List Value}, evs G xs = some vs → xs.map a.eval = vs
  | [], vs, hx => by simp [Proofs.Ytmdjiggnbdgipaa.evs] at hx; simp [hx]
  | x :: r, vs, hx => by
    simp only [Proofs.Ytmdjiggnbdgipaa.evs] at hx
    split at hx
    · rename_i v ws h1 h2
      simp at hx
      subst hx
      simp [h.ev h1, h.evs h2]
    · cases hx

/-- What is kept of a frame: the slots that are named, each with its value. -/
inductive Pick (G : Env) : Env → Prop
  | nil : Pick G []
  | cons {k : Nat} {v : Value} {G' : Env} (h : look k G = some v) (t : Pick G G') : Pick G ((k, v) :: G')

theorem Pick.look {G : Env} : ∀ {G' : Env}, Pick G G' → ∀ s v, look s G' = some v → Proofs.Ytmdjiggnbdgipaa.look s G = some v
  | _, .nil, s, v, h => by simp [Proofs.Ytmdjiggnbdgipaa.look] at h
  | _, .cons (k := k) hk t, s, v, h => by
    simp only [Proofs.Ytmdjiggnbdgipaa.look] at h
    by_cases e : Nat.beq s k = true
    · have := Nat.eq_of_beq_eq_true e
      subst this
      simp at h
      subst h
      exact hk
    · simp only [Bool.not_eq_true] at e
      simp only [e, cond_false] at h
      exact t.look s v h

theorem Pick.fit {n : Nat} {G G' : Env} {a : Act} (hp : Pick G G') (h : Fit n G a) : Fit n G' a :=
  ⟨h.defers, h.size, fun s v hs => h.get s v (hp.look s v hs)⟩

theorem Pick.app {G : Env} : ∀ {A B : Env}, Pick G A → Pick G B → Pick G (A ++ B)
  | _, _, .nil, hb => hb
  | _, _, .cons h t, hb => .cons h (t.app hb)

/-! ### Heaplets and the state of a walk -/
abbrev Hp := Nat → Option Obj
def sing (b : Nat) (o : Obj) : Hp := fun b' => if b' = b then some o else none
@[simp] theorem sing_self (b : Nat) (o : Obj) : sing b o b = some o := by simp [sing]
theorem sing_some {b b' : Nat} {o o' : Obj} (h : sing b o b' = some o') : b' = b ∧ o' = o := by
  unfold sing at h
  split at h
  · rename_i e; simp at h; exact ⟨e, h.symm⟩
  · cases h

def Agree (H : Hp) (w : World) : Prop := ∀ b o, H b = some o → w.heap[b]? = some o
theorem Agree.lt {H : Hp} {w : World} (h : Agree H w) {b : Nat} {o : Obj} (hb : H b = some o) : b < w.heap.size := by
  have := h b o hb
  exact (Array.getElem?_eq_some_iff.1 this).1

def NoX : Nat → Prop := fun _ => False
/-- The streams are as they were. -/
def Io (u v : World) : Prop := v.os = u.os ∧ v.output = u.output
theorem Io.refl (w : World) : Io w w := ⟨rfl, rfl⟩
theorem Io.trans {u v w : World} (h : Io u v) (k : Io v w) : Io u w := ⟨k.1.trans h.1, k.2.trans h.2⟩
/-- Blocks below the old size are as they were, but for those of X. -/
structure Ext (X : Nat → Prop) (w w' : World) : Prop where
  size : w.heap.size ≤ w'.heap.size
  same : ∀ b, b < w.heap.size → ¬ X b → w'.heap[b]? = w.heap[b]?
  io : Io w w'
theorem Ext.refl (X : Nat → Prop) (w : World) : Ext X w w := ⟨Nat.le_refl _, fun _ _ _ => rfl, Io.refl _⟩
theorem Ext.trans {X : Nat → Prop} {u v w : World} (h : Ext X u v) (k : Ext X v w) : Ext X u w :=
  ⟨Nat.le_trans h.size k.size, fun b hb hx => (k.same b (Nat.lt_of_lt_of_le hb h.size) hx).trans (h.same b hb hx), h.io.trans k.io⟩
theorem Ext.agree {w w' : World} {H : Hp} (h : Ext NoX w w') (hA : Agree H w) : Agree H w' :=
  fun b o hb => (h.same b (hA.lt hb) (fun x => x)).trans (hA b o hb)
theorem Ext.mono {X Y : Nat → Prop} {u v : World} (h : Ext X u v) (hx : ∀ b, b < u.heap.size → X b → Y b) : Ext Y u v :=
  ⟨h.size, fun b hb hy => h.same b hb (fun x => hy (hx b hb x)), h.io⟩

class In {α : Type} (a : α) (l : List α) : Prop where mem : a ∈ l
instance {α : Type} (a : α) (l : List α) : In a (a :: l) := ⟨.head _⟩
instance {α : Type} (a b : α) (l : List α) [h : In a l] : In a (b :: l) := ⟨.tail _ h.mem⟩
class AllIn {α : Type} (l m : List α) : Prop where all : ∀ a ∈ l, a ∈ m
instance {α : Type} (m : List α) : AllIn [] m := ⟨fun _ h => by cases h⟩
instance {α : Type} (a : α) (l m : List α) [h : In a m] [t : AllIn l m] : AllIn (a :: l) m :=
  ⟨fun x hx => by cases hx with | head => exact h.mem | tail _ h' => exact t.all x h'⟩
instance (priority := low) {α : Type} (l : List α) : AllIn l l := ⟨fun _ h => h⟩
theorem allIn_refl {α : Type} (l : List α) : AllIn l l := ⟨fun _ h => h⟩

def Apart (H K : Hp) : Prop := ∀ b, H b = none ∨ K b = none

/-- B: the world when the call began. X: the blocks of the caller's that the call may write. ims: heaplets that nobody writes. L: heaplets that the call owns, apart from each other and from ims. -/
structure St (B : World) (X : Nat → Prop) (ims : List Hp) (L : List Hp) (w : World) : Prop where
  size : B.heap.size ≤ w.heap.size
  ext : ∀ b, b < B.heap.size → ¬ X b → w.heap[b]? = B.heap[b]?
  im : ∀ H ∈ ims, Agree H w
  own : ∀ H ∈ L, Agree H w ∧ (∀ b, H b ≠ none → B.heap.size ≤ b ∨ X b) ∧ ∀ I ∈ ims, Apart H I
  nd : L.Pairwise Apart
  io : Io B w

theorem St.init {w : World} {ims : List Hp} (h : ∀ H ∈ ims, Agree H w) : St w NoX ims [] w :=
  ⟨Nat.le_refl _, fun _ _ _ => rfl, h, fun _ h => (by cases h), List.Pairwise.nil, Io.refl _⟩
theorem St.toExt {B : World} {X : Nat → Prop} {ims L : List Hp} {w : World} (h : St B X ims L w) : Ext X B w := ⟨h.size, h.ext, h.io⟩
theorem St.ag {B : World} {X : Nat → Prop} {ims L : List Hp} {w : World} (h : St B X ims L w) {H : Hp} [i : In H ims] : Agree H w := h.im H i.mem
theorem St.agL {B : World} {X : Nat → Prop} {ims L : List Hp} {w : World} (h : St B X ims L w) {H : Hp} [i : In H L] : Agree H w := (h.own H i.mem).1

/-- A callee that writes nothing of what is there. -/
theorem St.call {B : World} {X : Nat → Prop} {ims L : List Hp} {w w' : World} (h : St B X ims L w) (e : Ext NoX w w') : St B X ims L w' :=
  ⟨Nat.le_trans h.size e.size, fun b hb hx => (e.same b (Nat.lt_of_lt_of_le hb h.size) (fun x => x)).trans (h.ext b hb hx),
   fun H hH => e.agree (h.im H hH), fun H hH => ⟨e.agree (h.own H hH).1, (h.own H hH).2⟩, h.nd, h.io.trans e.io⟩
/-- A fresh heaplet, owned. -/
theorem St.push {B : World} {X : Nat → Prop} {ims L : List Hp} {w w' : World} (h : St B X ims L w) (e : Ext NoX w w') {H : Hp}
    (hA : Agree H w') (hf : ∀ b, H b ≠ none → w.heap.size ≤ b) : St B X ims (H :: L) w' := by
  have h' := h.call e
  have key : ∀ K : Hp, Agree K w → Apart H K := fun K hK b => by
    by_cases hb : H b = none
    · exact .inl hb
    · right
      cases hk : K b with
      | none => rfl
      | some o => exact absurd (hf b hb) (Nat.not_le.2 (hK.lt hk))
  refine ⟨h'.size, h'.ext, h'.im, fun K hK => ?_, ?_, h'.io⟩
  · cases hK with
    | head => exact ⟨hA, fun b hb => .inl (Nat.le_trans h.size (hf b hb)), fun I hI => key I (h.im I hI)⟩
    | tail _ hK => exact h'.own K hK
  · exact .cons (fun K hK => key K (h.own K hK).1) h.nd
/-- The first owned heaplet is written no more. -/
theorem St.freeze {B : World} {X : Nat → Prop} {ims L : List Hp} {w : World} {H : Hp} (h : St B X ims (H :: L) w) : St B X (H :: ims) L w :=
  ⟨h.size, h.ext, fun K hK => by
      cases hK with
      | head => exact (h.own H (.head _)).1
      | tail _ hK => exact h.im K hK,
   fun K hK => ⟨(h.own K (.tail _ hK)).1, (h.own K (.tail _ hK)).2.1, fun I hI => by
      cases hI with
      | head => exact fun b => ((List.pairwise_cons.1 h.nd).1 K hK b).symm
      | tail _ hI => exact (h.own K (.tail _ hK)).2.2 I hI⟩,
   (List.pairwise_cons.1 h.nd).2, h.io⟩
theorem St.pushIm {B : World} {X : Nat → Prop} {ims L : List Hp} {w w' : World} (h : St B X ims L w) (e : Ext NoX w w') {H : Hp}
    (hA : Agree H w') (hf : ∀ b, H b ≠ none → w.heap.size ≤ b) : St B X (H :: ims) L w' := (h.push e hA hf).freeze
theorem St.weak {B : World} {X : Nat → Prop} {ims ims' L L' : List Hp} {w : World} (h : St B X ims L w) [i : AllIn ims' ims] (s : L'.Sublist L) : St B X ims' L' w :=
  ⟨h.size, h.ext, fun H hH => h.im H (i.all H hH), fun H hH => ⟨(h.own H (s.mem hH)).1, (h.own H (s.mem hH)).2.1, fun I hI => (h.own H (s.mem hH)).2.2 I (i.all I hI)⟩, h.nd.sublist s, h.io⟩
theorem St.ims {B : World} {X : Nat → Prop} {ims ims' L : List Hp} {w : World} (h : St B X ims L w) [i : AllIn ims' ims] : St B X ims' L w := h.weak (List.Sublist.refl _)
theorem St.dropL {B : World} {X : Nat → Prop} {ims L : List Hp} {H : Hp} {w : World} (h : St B X ims (H :: L) w) : St B X ims L w :=
  ⟨h.size, h.ext, h.im, fun K hK => h.own K (.tail _ hK), (List.pairwise_cons.1 h.nd).2, h.io⟩
theorem St.addIm {B : World} {X : Nat → Prop} {ims L : List Hp} {w : World} (h : St B X ims L w) {H : Hp} (hA : Agree H w) (hd : ∀ K ∈ L, Apart K H) : St B X (H :: ims) L w :=
  ⟨h.size, h.ext, fun K hK => by
      cases hK with
      | head => exact hA
      | tail _ hK => exact h.im K hK,
   fun K hK => ⟨(h.own K hK).1, (h.own K hK).2.1, fun I hI => by
      cases hI with
      | head => exact hd K hK
      | tail _ hI => exact (h.own K hK).2.2 I hI⟩, h.nd, h.io⟩
def orHp (H K : Hp) : Hp := fun b => (H b).or (K b)
theorem agree_or {H K : Hp} {w : World} (h : Agree H w) (k : Agree K w) : Agree (orHp H K) w := fun b o hb => by
  unfold orHp at hb
  cases hh : H b with
  | some x => rw [hh] at hb; simp at hb; subst hb; exact h b x hh
  | none => rw [hh] at hb; simp at hb; exact k b o hb

/-! ### The sequence of a region's operations -/
/-- dr: does the region draw its order; fl: which operations must leave the world alone (a missing entry: need not). S: what is known of the world. -/
def wpSeq (dr : Bool) (P : Program) (ops : Array Oper) (Q : Exit → Act → World → Prop) : (World → Prop) → List Bool → List Oper → Act → World → Prop
  | _, _, [], a, w => Q .normal a w
  | S, fl, o :: rest, a, w =>
    if Region.wanted o (yielded ops a.tmps) = true then
      (∃ v, (∀ w', S w' → (execOp a.eval o).run P w' = .ok (.value v) w') ∧ wpSeq dr P ops Q S fl.tail rest (a.put o.dst v) w) ∨
      ((dr = true → fl.headD false = false) ∧ o.wp P a w (fun a' w' => ∃ S2 : World → Prop, (rest = [] ∨ S2 w' ∧ (dr = true → ∀ u, S2 u → S u)) ∧ wpSeq dr P ops Q S2 fl.tail rest a' w') (fun _ _ _ => False))
    else wpSeq dr P ops Q S fl.tail rest (a.put o.dst undef) w

theorem wpSeq_false {P : Program} {ops : Array Oper} {Q : Exit → Act → World → Prop} {S S' : World → Prop} (hs : ∀ u, S' u → S u) : ∀ (fl : List Bool) (l : List Oper) (a : Act) (w : World),
    wpSeq false P ops Q S fl l a w → wpSeq false P ops Q S' fl l a w
  | _, [], _, _, h => h
  | fl, o :: rest, a, w, h => by
    unfold wpSeq at h ⊢
    split at h
    · rename_i hw
      rw [if_pos hw]
      rcases h with ⟨v, hv, h⟩ | ⟨h1, h2⟩
      · exact .inl ⟨v, fun w' hw' => hv w' (hs w' hw'), wpSeq_false hs fl.tail rest _ w h⟩
      · refine .inr ⟨h1, ?_⟩
        unfold Oper.wp at h2 ⊢
        generalize (execOp a.eval o).run P w = r at h2
        have key : ∀ a' w', (∃ S2 : World → Prop, (rest = [] ∨ S2 w' ∧ (false = true → ∀ u, S2 u → S u)) ∧ wpSeq false P ops Q S2 fl.tail rest a' w') →
            (∃ S2 : World → Prop, (rest = [] ∨ S2 w' ∧ (false = true → ∀ u, S2 u → S' u)) ∧ wpSeq false P ops Q S2 fl.tail rest a' w') :=
          fun a' w' ⟨S2, h3, h4⟩ => ⟨S2, h3.imp id (fun h => ⟨h.1, fun e => by cases e⟩), h4⟩
        cases r with
        | ok n w' =>
          cases n <;> simp only [Oper.upon] at h2 ⊢ <;> first
            | exact key _ _ h2
            | exact h2.mono (fun e w'' he => by cases e <;> first | exact key _ _ he | exact he)
            | exact h2.mono (fun v w'' he => key _ _ he)
        | halt x w' => cases x <;> simp only [Oper.upon] at h2 ⊢
    · rename_i hw
      rw [if_neg hw]
      exact wpSeq_false hs fl.tail rest _ w h

theorem oper_wp_noPanic {P : Program} {o : Oper} {a : Act} {w : World} {K K' : Act → World → Prop} {Q : Exit → Act → World → Prop} (hk : ∀ a w, K a w → K' a w)
    (h : o.wp P a w K (fun _ _ _ => False)) : o.wp P a w K' Q := by
  unfold Oper.wp at h ⊢
  generalize (execOp a.eval o).run P w = r at h
  cases r with
  | ok n w' =>
    cases n <;> simp only [Oper.upon] at h ⊢ <;> first
      | exact hk _ _ h
      | exact h.mono (fun e w'' he => by cases e <;> first | exact hk _ _ he | exact he.elim | exact (by obtain ⟨a, b, c⟩ := he; exact c.elim))
      | exact h.mono (fun v w'' he => hk _ _ he)
  | halt x w' => cases x <;> simp only [Oper.upon] at h ⊢

theorem wpList_of_seq {P : Program} {ops : Array Oper} {Q : Exit → Act → World → Prop} : ∀ (l : List Oper) (S : World → Prop) (fl : List Bool) (a : Act) (w : World),
    (l = [] ∨ S w) → wpSeq false P ops Q S fl l a w → wpList P ops Q l a w
  | [], _, _, _, _, _, h => h
  | o :: rest, S, fl, a, w, hS, h => by
    have hS : S w := hS.resolve_left (by simp)
    unfold wpSeq at h
    unfold wpList
    split at h
    · rename_i hw
      rw [if_pos hw]
      left
      rcases h with ⟨v, hv, h⟩ | ⟨_, h⟩
      · unfold Oper.wp
        rw [hv w hS]
        exact wpList_of_seq rest S fl.tail _ w (.inr hS) h
      · refine oper_wp_noPanic (fun a' w' h' => ?_) h
        obtain ⟨S2, h2, h3⟩ := h'
        exact wpList_of_seq rest S2 fl.tail a' w' (h2.imp id (·.1)) h3
    · rename_i hw
      rw [if_neg hw]
      exact wpList_of_seq rest S fl.tail _ w (.inr hS) h

/-! ### A region that draws its order: the order of the text serves every order -/
/-- As the kit's law for held loads, but the operation f, which waits for all that are taken first, need not keep S. -/
def anyG (P : Program) (md : Region.Mode) (ops : Array Oper) (Q : Exit → Act → World → Prop) (S : World → Prop) (f : Nat) : Nat → Array Bool → Act → World → Prop
  | 0, listed, a, w => Region.ready md ops listed = [] ∧ Q .normal a w
  | fuel + 1, listed, a, w =>
    (Region.ready md ops listed = [] → Q .normal a w) ∧
    ∀ i ∈ Region.ready md ops listed, wpOp P ops Q i (fun a' w' => (i = f ∨ S w') ∧ anyG P md ops Q S f fuel (listed.setIfInBounds i true) a' w') a w

theorem wpAny_of_anyG {P : Program} {md : Region.Mode} {ops : Array Oper} {Q : Exit → Act → World → Prop} {S : World → Prop} {f : Nat} :
    ∀ (fuel : Nat) (listed : Array Bool) (a : Act) (w : World), anyG P md ops Q S f fuel listed a w → wpAny P md ops Q fuel listed a w
  | 0, _, _, _, h => h
  | fuel + 1, _, _, _, h => ⟨h.1, fun i hi => wpOp_mono (fun a' w' h' => wpAny_of_anyG fuel _ a' w' h'.2) (h.2 i hi)⟩

theorem anyG_first {P : Program} {md : Region.Mode} {ops : Array Oper} {Q : Exit → Act → World → Prop} {S : World → Prop} {f i : Nat} {oi : Oper} {v : Value}
    (hi : ops[i]? = some oi) (hsel : ∀ (j : Nat) (o : Oper) cs b, ops[j]? = some o → o.op ≠ .select cs b)
    (hQ : ∀ c a w, Q (.panic c) (a.put oi.dst v) w → Q (.panic c) a w)
    (hfi : f ≠ i) (hf : ∀ o, ops[f]? = some o → ∃ e ∈ o.after, Region.binds md e = true ∧ e.on = i) :
    ∀ (fuel : Nat) (listed : Array Bool) (a : Act) (w : World),
      (∀ j oj, ops[j]? = some oj → j ≠ i → listed.getD j true = false → (∀ e ∈ oj.after, Region.binds md e = true → e.on ≠ i) → oi.apart ops oj = true) →
      i ∈ Region.ready md ops listed → YieldsIf P ops S oi v a → S w →
      anyG P md ops Q S f fuel (listed.setIfInBounds i true) (a.put oi.dst v) w → anyG P md ops Q S f (fuel + 1) listed a w := by
  intro fuel
  induction fuel with
  | zero =>
    intro listed a w _ hr hy hS H
    refine ⟨fun h => (by rw [h] at hr; cases hr), fun j hj => ?_⟩
    by_cases hji : j = i
    · subst hji; exact hy.wpOp hi hS ⟨.inr hS, H⟩
    · have := ready_mono hj hji
      rw [H.1] at this
      cases this
  | succ fuel ih =>
    intro listed a w hfree hr hy hS H
    refine ⟨fun h => (by rw [h] at hr; cases hr), fun j hj => ?_⟩
    by_cases hji : j = i
    · subst hji; exact hy.wpOp hi hS ⟨.inr hS, H⟩
    · have h1 := H.2 j (ready_mono hj hji)
      obtain ⟨hjun, oj, hoj, hall⟩ := mem_ready.1 hj
      have hnot : ∀ e ∈ oj.after, Region.binds md e = true → e.on ≠ i := fun e he hb heq => by
        have h1 := hall e he hb
        have h0 := (mem_ready.1 hr).1
        rw [heq] at h1
        rcases Nat.lt_or_ge i listed.size with h' | h'
        · simp [h'] at h0 h1; rw [h0] at h1; cases h1
        · simp [Array.getElem?_eq_none h'] at h1
      have hjf : j ≠ f := fun e => by
        subst e
        obtain ⟨e, he, hb, ho⟩ := hf oj hoj
        exact hnot e he hb ho
      have h2 := wpOp_putIf hoj (hfree j oj hoj hji hjun hnot) (fun cs b => hsel i oi cs b hi) (fun cs b => hsel j oj cs b hoj) hQ hy h1
      have hfree' : ∀ k ok, ops[k]? = some ok → k ≠ i → (listed.setIfInBounds j true).getD k true = false →
          (∀ e ∈ ok.after, Region.binds md e = true → e.on ≠ i) → oi.apart ops ok = true := fun k ok hk hki hun hno => by
        refine hfree k ok hk hki ?_ hno
        by_cases hjk : j = k
        · subst hjk; exact hjun
        · rw [getD_set_ne true hjk] at hun; exact hun
      refine wpOp_mono (fun a' w' h3 => ?_) h2
      have hS' : S w' := h3.2.1.resolve_left hjf
      refine ⟨.inr hS', ih (listed.setIfInBounds j true) a' w' hfree' (ready_mono hr (Ne.symm hji)) h3.1 hS' ?_⟩
      rw [Array.setIfInBounds_comm _ _ hji]
      exact h3.2.2

theorem anyG_mono {P : Program} {md : Region.Mode} {ops : Array Oper} {Q : Exit → Act → World → Prop} {S S' : World → Prop} {f : Nat} (hs : ∀ w, S w → S' w) :
    ∀ (fuel : Nat) (listed : Array Bool) (a : Act) (w : World), anyG P md ops Q S f fuel listed a w → anyG P md ops Q S' f fuel listed a w
  | 0, _, _, _, h => h
  | fuel + 1, _, _, _, h => ⟨h.1, fun i hi => wpOp_mono (fun a' w' h' => ⟨h'.1.imp id (hs w'), anyG_mono hs fuel _ a' w' h'.2⟩) (h.2 i hi)⟩

/-- The check of the order of the text, by the kernel: a true in fl: the operation may be taken first; else it is the only one that may come up. f: the operation that need not keep S. -/
def seqOk (ops : Array Oper) (f : Nat) : List Bool → Nat → Nat → Array Bool → Bool
  | _, 0, _, listed => (Region.ready .any ops listed).isEmpty
  | fl, fuel + 1, k, listed =>
    (bif fl.headD false then
      (Region.ready .any ops listed).contains k && Region.free .any ops listed k && !(f == k) &&
        (match ops[f]? with | none => true | some o => o.after.any fun e => Region.binds .any e && e.on == k)
     else Region.ready .any ops listed == [k] && (!(fuel == 0) || f == k)) && seqOk ops f fl.tail fuel (k + 1) (listed.setIfInBounds k true)

theorem anyG_of_seq {P : Program} {ops : Array Oper} {Q : Exit → Act → World → Prop} {f : Nat}
    (hsel : Region.noSelect ops = true) (hQ : ∀ c a w, ¬ Q (.panic c) a w) :
    ∀ (l : List Oper) (S : World → Prop) (fl : List Bool) (k : Nat) (listed : Array Bool) (a : Act) (w : World), (∀ j, l[j]? = ops[k + j]?) →
      seqOk ops f fl l.length k listed = true → (l = [] ∨ S w) → wpSeq true P ops Q S fl l a w → anyG P .any ops Q S f l.length listed a w
  | [], _, _, _, _, a, w, _, hB, _, h => by
    refine ⟨?_, h⟩
    simpa [seqOk] using hB
  | o :: l, S, fl, k, listed, a, w, hl, hB, hk, h => by
    have hS : S w := hk.resolve_left (by simp)
    have h0 : ops[k]? = some o := by simpa using (hl 0).symm
    have hl' : ∀ j, l[j]? = ops[k + 1 + j]? := fun j => by have := hl (j + 1); simpa [Nat.add_assoc, Nat.add_comm 1 j] using this
    simp only [List.length_cons, seqOk, Bool.and_eq_true] at hB
    obtain ⟨hB1, hB2⟩ := hB
    unfold wpSeq at h
    by_cases hfl : fl.headD false = true
    · rw [hfl] at hB1
      simp only [cond_true, Bool.and_eq_true, Bool.not_eq_true', beq_eq_false_iff_ne] at hB1
      obtain ⟨⟨⟨hr, hfree⟩, hfk⟩, hwait⟩ := hB1
      have hwait' : ∀ o', ops[f]? = some o' → ∃ e ∈ o'.after, Region.binds .any e = true ∧ e.on = k := fun o' ho' => by
        rw [ho'] at hwait
        simp only [Array.any_eq_true, Bool.and_eq_true, beq_iff_eq] at hwait
        obtain ⟨i, hi, h1, h2⟩ := hwait
        exact ⟨_, Array.getElem_mem hi, h1, h2⟩
      have main : ∀ v, YieldsIf P ops S o v a → wpSeq true P ops Q S fl.tail l (a.put o.dst v) w → anyG P .any ops Q S f (o :: l).length listed a w := fun v hy h =>
        anyG_first h0 (Region.noSelect_spec hsel) (fun c a w hq => (hQ c _ w hq).elim) hfk hwait' l.length listed a w (Region.free_spec h0 hfree) (by simpa using hr) hy hS
          (anyG_of_seq hsel hQ l S fl.tail (k + 1) _ _ w hl' hB2 (.inr hS) h)
      split at h
      · rename_i hw
        rcases h with ⟨v, hv, h⟩ | ⟨hno, _⟩
        · exact main v (.inl ⟨hw, hv⟩) h
        · rw [hno rfl] at hfl; cases hfl
      · rename_i hw
        exact main undef (.inr ⟨by simpa using hw, rfl⟩) h
    · simp only [Bool.not_eq_true] at hfl
      rw [hfl] at hB1
      simp only [cond_false, Bool.and_eq_true, beq_iff_eq, Bool.or_eq_true, Bool.not_eq_true', beq_eq_false_iff_ne] at hB1
      obtain ⟨hr, hlast⟩ := hB1
      refine ⟨fun h' => absurd (hr ▸ h') (by simp), fun i hi => ?_⟩
      rw [hr] at hi
      simp only [List.mem_singleton] at hi
      subst hi
      have hlast' : ∀ S2 : World → Prop, ∀ w', (l = [] ∨ S2 w') → (i = f ∨ S2 w') := fun S2 w' h2 => by
        rcases h2 with h2 | h2
        · left
          rcases hlast with h3 | h3
          · subst h2; simp at h3
          · exact h3.symm
        · exact .inr h2
      unfold wpOp
      rw [h0]
      simp only
      split at h
      · rename_i hw
        rw [if_pos hw]
        left
        rcases h with ⟨v, hv, h⟩ | ⟨_, h⟩
        · unfold Oper.wp
          rw [hv w hS]
          exact ⟨.inr hS, anyG_of_seq hsel hQ l S fl.tail (i + 1) _ _ w hl' hB2 (.inr hS) h⟩
        · refine oper_wp_noPanic (fun a' w' h' => ?_) h
          obtain ⟨S2, h2, h3⟩ := h'
          have h4 := anyG_of_seq hsel hQ l S2 fl.tail (i + 1) _ _ w' hl' hB2 (h2.imp id (·.1)) h3
          rcases h2 with h2 | ⟨h2, h5⟩
          · refine ⟨hlast' S w' (.inl h2), ?_⟩
            subst h2
            exact h4
          · exact ⟨.inr (h5 rfl w' h2), anyG_mono (h5 rfl) _ _ _ _ h4⟩
      · rename_i hw
        rw [if_neg hw]
        exact ⟨.inr hS, anyG_of_seq hsel hQ l S fl.tail (i + 1) _ _ w hl' hB2 (.inr hS) h⟩

theorem wp_region_seq {P : Program} {l : List Oper} {id : Nat} {Q : Exit → Act → World → Prop} {S : World → Prop} {a : Act} {w : World} (f : Nat) (fl : List Bool)
    (hm : P.follows .mixedOrders = true) (hsel : Region.noSelect l.toArray = true) (hB : seqOk l.toArray f fl l.length 0 (Array.replicate l.length false) = true)
    (hS : S { w with drawn := w.drawn + 1 }) (h : wpSeq true P l.toArray (NoPanic Q) S fl l a { w with drawn := w.drawn + 1 }) : (Code.region id l.toArray true).wp P Q a w := by
  refine wp_region_noPanic (wp_region_any hm (wpAny_of_anyG _ _ _ _ (?_ : anyG P .any l.toArray (NoPanic Q) S f l.toArray.size _ a _)))
  have := anyG_of_seq (P := P) (Q := NoPanic Q) (f := f) hsel (fun c a w h => h) l S fl 0 (Array.replicate l.length false) a _ (by simp) hB (.inr hS) h
  simpa using this

end Go.Proofs.Ytmdjiggnbdgipaa
