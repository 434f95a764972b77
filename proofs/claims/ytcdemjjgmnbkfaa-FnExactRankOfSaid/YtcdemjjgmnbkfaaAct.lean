/- The laws of the operations that change the world, of calls and of returns. Conditions: none. -/
import Derived.Test.YtcdemjjgmnbkfaaMem
import Derived.Laws.CopyRow
namespace Go.Proofs.Ytcdemjjgmnbkfaa
open Go
set_option linter.unusedSimpArgs false
set_option linter.unusedVariables false

def noHp : Hp := fun _ => none
theorem agree_no (w : World) : Agree noHp w := fun _ _ h => by cases h
def Fresh (B : World) (H : Hp) : Prop := ∀ b, H b ≠ none → B.heap.size ≤ b
/-- Rows of cells that are not frozen. -/
def Liq (H : Hp) : Prop := ∀ b o, H b = some o → ∃ cs T, o = .cells cs T (0, 0)
/-- New memory. -/
def Fr (B : World) (H : Hp) : Prop := Fresh B H ∧ Liq H
theorem fr_no (B : World) : Fr B noHp := ⟨fun _ h => absurd rfl h, fun _ _ h => by cases h⟩
theorem fr_or {B : World} {H K : Hp} (h : Fr B H) (k : Fr B K) : Fr B (orHp H K) := ⟨fun b hb => by
  by_cases hh : H b = none
  · exact k.1 b (by simpa [orHp, hh] using hb)
  · exact h.1 b hh, fun b o hb => by
  unfold orHp at hb
  cases hh : H b with
  | some x => rw [hh] at hb; simp at hb; subst hb; exact h.2 b x hh
  | none => rw [hh] at hb; simp at hb; exact k.2 b o hb⟩
theorem fresh_sing {B : World} {b : Nat} {o : Obj} (h : B.heap.size ≤ b) : Fresh B (sing b o) := fun b' hb => by
  by_cases e : b' = b
  · exact e ▸ h
  · simp [sing, e] at hb
theorem liq_sing {b T : Nat} {cs : Array Value} : Liq (sing b (.cells cs T (0, 0))) := fun b' o hb => by
  obtain ⟨rfl, rfl⟩ := sing_some hb; exact ⟨_, _, rfl⟩
theorem fr_sing {B : World} {b T : Nat} {cs : Array Value} (h : B.heap.size ≤ b) : Fr B (sing b (.cells cs T (0, 0))) := ⟨fresh_sing h, liq_sing⟩

/-- How a call ends: it returns v, writes nothing that was there; H: new memory that holds what v leads to. -/
def Res (w : World) (phi : Hp → Value → Prop) : Ending → World → Prop
  | .returned v, w' => Ext NoX w w' ∧ ∃ H, Agree H w' ∧ Fr w H ∧ phi H v
  | _, _ => False
def Spec (P : Program) (f : FuncId) (args : List Value) (ims : List Hp) (phi : Hp → Value → Prop) : Prop :=
  ∀ w, (∀ H ∈ ims, Agree H w) → Calls P f args.toArray w (Res w phi)
/-- The same where the value alone counts. -/
def SpecP (P : Program) (f : FuncId) (args : List Value) (ims : List Hp) (v0 : Value) : Prop := Spec P f args ims (fun _ v => v = v0)
theorem Spec.mono {P : Program} {f : FuncId} {args : List Value} {ims : List Hp} {p q : Hp → Value → Prop} (h : Spec P f args ims p) (hq : ∀ H v, p H v → q H v) : Spec P f args ims q :=
  fun w hA => (h w hA).mono fun e w' he => by
    cases e with
    | returned v => obtain ⟨h1, H, h2, h3, h4⟩ := he; exact ⟨h1, H, h2, h3, hq _ _ h4⟩
    | panicked c => exact he
    | outgrown => exact he
theorem SpecP.cast {P : Program} {f : FuncId} {args : List Value} {ims : List Hp} {v v' : Value} (h : SpecP P f args ims v) (e : v = v') : SpecP P f args ims v' := e ▸ h

def pars : Nat → List Value → Env
  | _, [] => []
  | k, v :: r => (k, v) :: pars (k + 1) r
theorem look_pars : ∀ (vs : List Value) (k s : Nat) (v : Value), look s (pars k vs) = some v → k ≤ s ∧ vs[s - k]? = some v
  | [], _, _, _, h => by simp [pars, look] at h
  | u :: r, k, s, v, h => by
    simp only [pars, look] at h
    by_cases e : Nat.beq s k = true
    · have := Nat.eq_of_beq_eq_true e
      subst this
      simp at h
      simp [h]
    · simp only [Bool.not_eq_true] at e
      simp only [e, cond_false] at h
      obtain ⟨h1, h2⟩ := look_pars r (k + 1) s v h
      refine ⟨by omega, ?_⟩
      have : s - k = (s - (k + 1)) + 1 := by omega
      rw [this]
      simpa using h2
theorem fit_pars {n : Nat} {vs : List Value} (h : vs.length ≤ n) : Fit (n, []) (pars 0 vs) { tmps := vs.toArray ++ Array.replicate (n - vs.toArray.size) undef, defers := [] } := by
  refine ⟨rfl, by simp; omega, fun s v hs => ?_⟩
  obtain ⟨_, h2⟩ := look_pars vs 0 s v hs
  simp at h2
  have hlt : s < vs.length := by
    rcases Nat.lt_or_ge s vs.length with h' | h'
    · exact h'
    · simp [List.getElem?_eq_none h'] at h2
  refine ⟨by omega, ?_⟩
  have h3 := (List.getElem?_eq_some_iff.1 h2).2
  simp [Array.getElem?_append, hlt, h3]

theorem spec_of {P : Program} {f : FuncId} {fn : Func} {c : Code} {vs : List Value} {n : Nat} {ims : List Hp} {phi : Hp → Value → Prop}
    (hf : P.funcs[f]? = some fn) (hb : fn.body = some c) (hn : fn.ntmps = n) (hle : Nat.ble vs.length n = true)
    (h : ∀ B, KC ⟨P, n, B, noS, false, [], none⟩ (bodyPost P fn (Res B phi)) ims [] c (pars 0 vs)) : Spec P f vs ims phi := fun w hA => by
  refine calls_of_wp hf hb ((wpIn_wide (n := 0)).1 ?_)
  rw [hn]
  exact h w _ w (fit_pars (Nat.le_of_ble_eq_true hle)) (St.init hA)

class FnC (P : Program) (g : Nat) : Prop where
  run : ∀ args w, (callFunc g args).run P w = .ok (.enter g args) w
theorem fnC_of {P : Program} {g : Nat} {fn : Func} {c : Code} (hf : P.funcs[g]? = some fn) (hb : fn.body = some c) (hn : (fn.name == "runtime.NumGoroutine") = false) : FnC P g :=
  ⟨fun args w => by
    have hn' : fn.name ≠ "runtime.NumGoroutine" := by simpa using hn
    simp [callFunc, Go.program, Sem.run, hf, hb, hn', Bind.bind, Sem.bind]⟩

/-! ### What stands behind a value -/
class Got (H : Hp) (ims L : List Hp) : Prop where
  g : ∀ {B : World} {X : Side} {w : World}, St B X ims L w → Agree H w
instance (ims L : List Hp) : Got noHp ims L := ⟨fun _ => agree_no _⟩
instance (H K : Hp) (ims L : List Hp) [h : Got H ims L] [k : Got K ims L] : Got (orHp H K) ims L := ⟨fun s => agree_or (h.g s) (k.g s)⟩
instance (H : Hp) (ims L : List Hp) [i : In H ims] : Got H ims L := ⟨fun s => s.im H i.mem⟩
instance (H : Hp) (ims L : List Hp) [i : In H L] : Got H ims L := ⟨fun s => (s.own H i.mem).1⟩

class AllGot (l ims L : List Hp) : Prop where
  g : ∀ {B : World} {X : Side} {w : World}, St B X ims L w → ∀ H ∈ l, Agree H w
instance (ims L : List Hp) : AllGot [] ims L := ⟨fun _ _ h => by cases h⟩
instance (H : Hp) (l ims L : List Hp) [h : Got H ims L] [t : AllGot l ims L] : AllGot (H :: l) ims L :=
  ⟨fun s K hK => by cases hK with | head => exact h.g s | tail _ h' => exact t.g s K h'⟩

instance (l : List Hp) (L : List Hp) : AllGot l l L := ⟨fun s => s.im⟩
instance (priority := low) (H : Hp) (l ims L : List Hp) [h : AllGot l ims L] : AllGot l (H :: ims) L := ⟨fun s => h.g (s.weak (i := ⟨fun _ h => .tail _ h⟩) (List.Sublist.refl _))⟩

section rets
variable {P : Program} {n : Nat} {B : World} {ims L : List Hp} {G : Env} {fn : Func} {phi : Hp → Value → Prop}
theorem kq_ret {t : Nat} {v : Value} (hr : fn.results = #[.tmp t]) (hv : look t G = some v) (H : Hp) [hg : Got H ims L] (hf : Fr B H) (hp : phi H v) :
    KQ ⟨P, n, B, noS, false, [], none⟩ ims L G (bodyPost P fn (Res B phi) .ret) := fun a w hF hS => by
  refine ⟨hF.defers, v, ?_, hS.toExt, H, hg.g hS, hf, hp⟩
  rw [results_tmp hr, (hF.get t v hv).2]
theorem kq_retP {t : Nat} {v : Value} (hr : fn.results = #[.tmp t]) (hv : look t G = some v) (hp : phi noHp v) :
    KQ ⟨P, n, B, noS, false, [], none⟩ ims L G (bodyPost P fn (Res B phi) .ret) := kq_ret hr hv noHp (fr_no B) hp
theorem kq_ret2 {t u : Nat} {v x : Value} (hr : fn.results = #[.tmp t, .tmp u]) (hv : look t G = some v) (hx : look u G = some x) (H : Hp) [hg : Got H ims L] (hf : Fr B H) (hp : phi H (.tuple #[v, x])) :
    KQ ⟨P, n, B, noS, false, [], none⟩ ims L G (bodyPost P fn (Res B phi) .ret) := fun a w hF hS => by
  refine ⟨hF.defers, .tuple #[v, x], ?_, hS.toExt, H, hg.g hS, hf, hp⟩
  rw [results_tmp2 hr, (hF.get t v hv).2, (hF.get u x hx).2]
end rets

/-! ### Changes of what is owned -/
inductive UpdR (H H' : Hp) : List Hp → List Hp → Prop
  | head (L : List Hp) : UpdR H H' (H :: L) (H' :: L)
  | tail (K : Hp) {L L' : List Hp} (h : UpdR H H' L L') : UpdR H H' (K :: L) (K :: L')
class Upd (H H' : Hp) (L : List Hp) (L' : outParam (List Hp)) : Prop where u : UpdR H H' L L'
instance (H H' : Hp) (L : List Hp) : Upd H H' (H :: L) (H' :: L) := ⟨.head L⟩
instance (priority := low) (H H' K : Hp) (L L' : List Hp) [h : Upd H H' L L'] : Upd H H' (K :: L) (K :: L') := ⟨.tail K h.u⟩
theorem UpdR.mem {H H' : Hp} : ∀ {L L' : List Hp}, UpdR H H' L L' → H ∈ L
  | _, _, .head _ => .head _
  | _, _, .tail _ h => .tail _ h.mem
theorem UpdR.mem' {H H' K : Hp} : ∀ {L L' : List Hp}, UpdR H H' L L' → K ∈ L' → K = H' ∨ K ∈ L
  | _, _, .head _, h => by
    cases h with
    | head => exact .inl rfl
    | tail _ h => exact .inr (.tail _ h)
  | _, _, .tail _ u, h => by
    cases h with
    | head => exact .inr (.head _)
    | tail _ h => exact (u.mem' h).imp id (.tail _)
/-- H may be written, and may be left for new memory. -/
theorem St.upd {B : World} {X : Side} {ims L L' : List Hp} {w w' : World} {H H' : Hp} (h : St B X ims L w) [u : Upd H H' L L']
    (hs : w.heap.size ≤ w'.heap.size) (e : ∀ b, b < w.heap.size → H b = none → w'.heap[b]? = w.heap[b]?) (hA : Agree H' w') (hd : ∀ b, H' b ≠ none → H b ≠ none ∨ w.heap.size ≤ b) (hio : Io w w') : St B X ims L' w' := by
  obtain ⟨u⟩ := u
  have hH := h.own H u.mem
  have other : ∀ K : Hp, Agree K w → Apart H K → Agree K w' ∧ Apart H' K := fun K hK hap => by
    refine ⟨fun b o hb => ?_, fun b => ?_⟩
    · have hn : H b = none := (hap b).resolve_right (by rw [hb]; simp)
      exact (e b (hK.lt hb) hn).trans (hK b o hb)
    · by_cases hk : K b = none
      · exact .inr hk
      · left
        cases hh : H' b with
        | none => rfl
        | some o =>
          rcases hd b (by rw [hh]; simp) with h1 | h1
          · exact absurd ((hap b).resolve_left h1) hk
          · cases hkb : K b with
            | none => exact absurd hkb hk
            | some o' => exact absurd h1 (Nat.not_le.2 (hK.lt hkb))
  have him : ∀ I ∈ ims, Agree I w' ∧ Apart H' I := fun I hI => other I (h.im I hI) (hH.2.2 I hI)
  have hown : ∀ {L L' : List Hp}, UpdR H H' L L' → (∀ K ∈ L, Agree K w) → L.Pairwise Apart → (∀ K ∈ L', K ≠ H' → Agree K w') ∧ L'.Pairwise Apart ∧ True := by
    intro L L' u
    induction u with
    | head L =>
      intro hK hp
      have hp' := List.pairwise_cons.1 hp
      have ho : ∀ K ∈ L, Agree K w' ∧ Apart H' K := fun K hm => other K (hK K (.tail _ hm)) (hp'.1 K hm)
      refine ⟨fun K hm hne => ?_, List.pairwise_cons.2 ⟨fun K hm => (ho K hm).2, hp'.2⟩, trivial⟩
      cases hm with
      | head => exact absurd rfl hne
      | tail _ hm => exact (ho K hm).1
    | tail K0 u' ih =>
      intro hK hp
      have hp' := List.pairwise_cons.1 hp
      obtain ⟨i1, i2, _⟩ := ih (fun K hm => hK K (.tail _ hm)) hp'.2
      have hap0 : Apart H K0 := fun b => ((hp'.1 H u'.mem) b).symm
      have o0 := other K0 (hK K0 (.head _)) hap0
      refine ⟨fun K hm hne => ?_, List.pairwise_cons.2 ⟨fun K hm => ?_, i2⟩, trivial⟩
      · cases hm with
        | head => exact o0.1
        | tail _ hm => exact i1 K hm hne
      · rcases u'.mem' hm with rfl | hm
        · exact fun b => (o0.2 b).symm
        · exact hp'.1 K hm
  obtain ⟨o1, o2, _⟩ := hown u (fun K hK => (h.own K hK).1) h.nd
  refine h.turn hs (fun b hb hn => e b hb (Classical.byContradiction fun hc => hn (.inl ⟨H, u.mem, hc⟩))) hio (fun b hb => ?_) (fun b hb hx => ?_) (fun I hI => (him I hI).1) (fun K hK => ?_) o2
  · rcases hb with ⟨K, hK, hb⟩ | hb
    · rcases u.mem' hK with rfl | hm
      · exact (hd b hb).imp (fun h1 => .inl ⟨H, u.mem, h1⟩) id
      · exact .inl (.inl ⟨K, hm, hb⟩)
    · exact .inl (.inr hb)
  · have hn : H b = none := by
      cases hh : H b with
      | none => rfl
      | some o =>
        rcases hH.2.1 b (by rw [hh]; simp) with h1 | h1
        · exact absurd hb (Nat.not_lt.2 h1)
        · exact absurd h1 hx
    exact (e b (Nat.lt_of_lt_of_le hb h.size) hn).trans (h.ext b hb hx)
  · by_cases hk : K = H'
    · subst hk
      refine ⟨hA, fun b hb => ?_, fun I hI => (him I hI).2⟩
      rcases hd b hb with h1 | h1
      · exact hH.2.1 b h1
      · exact .inl (Nat.le_trans h.size h1)
    · rcases u.mem' hK with rfl | hm
      · exact absurd rfl hk
      · exact ⟨o1 K hK hk, (h.own K hm).2⟩

theorem ext_alloc (w : World) (o : Obj) : Ext NoX w (w.alloc o) := ⟨by simp, fun b hb _ => by show (w.heap.push o)[b]? = _; simp [Array.getElem?_push, Nat.ne_of_lt hb], ⟨rfl, rfl⟩⟩
theorem agree_alloc (w : World) (o : Obj) : Agree (sing w.heap.size o) (w.alloc o) := fun b o' hb => by
  obtain ⟨rfl, rfl⟩ := sing_some hb
  show (w.heap.push o')[w.heap.size]? = _
  simp

section acts
variable {C : Cx} {dr : Bool} {ops : Array Oper} {Q : Post} {ims L : List Hp} {G : Env} {fl : List Bool} {rest : List Oper}
  {d ty : Nat} {pos : String} {af : Array Edge}

theorem kl_act {o : Oper} (hg : o.guard = none) (hfl : fl.headD false = false)
    (ha : ∀ a w, Fit C.m G a → St C.B C.X ims L w → o.wp C.P a w (fun a' w' => ∃ ims2 L2 G2, (rest = [] ∨ (dr = true → ∀ u, St C.B C.X ims2 (C.W L2) u → St C.B C.X ims (C.W L) u)) ∧
      Fit C.m G2 a' ∧ St C.B C.X ims2 L2 w' ∧ KL C dr ops Q ims2 L2 fl.tail rest G2) (fun _ _ _ => False)) : KL C dr ops Q ims L fl (o :: rest) G := fun a w hf hs => by
  unfold wpSeq
  rw [if_pos (by simp [Region.wanted, hg])]
  refine .inr ⟨fun _ => hfl, oper_wp_noPanic (Q := fun _ _ _ => False) (fun a' w' h => ?_) (ha a w hf hs)⟩
  obtain ⟨ims2, L2, G2, h1, h2, h3, h4⟩ := h
  exact ⟨St C.B C.X ims2 (C.W L2), h1.imp id (fun h => ⟨h3.w, h⟩), h4 a' w' h2 h3⟩

/-- An operation that makes a block. -/
theorem kl_new {op : Op} {o : Obj} {v : Nat → Value} (hrun : ∀ (r : Operand → Value) w, Ev G r → (execOp r ⟨some d, op, ty, pos, af, none⟩).run C.P w = .ok (.value (v w.heap.size)) (w.alloc o))
    (h : ∀ b, C.B.heap.size ≤ b → KL C dr ops Q ims (sing b o :: L) fl.tail rest ((d, v b) :: G)) (hlt : Nat.blt d C.n = true) (hfl : fl.headD false = false) :
    KL C dr ops Q ims L fl (⟨some d, op, ty, pos, af, none⟩ :: rest) G :=
  kl_act rfl hfl fun a w hf hs => by
    unfold Oper.wp
    rw [hrun a.eval w hf.toEv]
    exact ⟨ims, _, _, .inr (fun _ u hu => hu.wl (.cons _ (List.Sublist.refl _))), hf.put (by simpa [Nat.blt_eq, Cx.m] using hlt), hs.push (ext_alloc w o) (agree_alloc w o) (fresh_sing (B := w) (Nat.le_refl _)), h w.heap.size hs.size⟩
/-- The same, the block written no more. -/
theorem kl_newI {op : Op} {o : Obj} {v : Nat → Value} (hrun : ∀ (r : Operand → Value) w, Ev G r → (execOp r ⟨some d, op, ty, pos, af, none⟩).run C.P w = .ok (.value (v w.heap.size)) (w.alloc o))
    (h : ∀ b, C.B.heap.size ≤ b → KL C dr ops Q (sing b o :: ims) L fl.tail rest ((d, v b) :: G)) (hlt : Nat.blt d C.n = true) (hfl : fl.headD false = false) :
    KL C dr ops Q ims L fl (⟨some d, op, ty, pos, af, none⟩ :: rest) G :=
  kl_act rfl hfl fun a w hf hs => by
    unfold Oper.wp
    rw [hrun a.eval w hf.toEv]
    exact ⟨sing w.heap.size o :: ims, L, _, .inr (fun _ u hu => hu.weak (i := ⟨fun a ha => .tail _ ha⟩) (List.Sublist.refl _)), hf.put (by simpa [Nat.blt_eq, Cx.m] using hlt),
      hs.pushIm (ext_alloc w o) (agree_alloc w o) (fresh_sing (B := w) (Nat.le_refl _)), h w.heap.size hs.size⟩

theorem box_run {P : Program} {T : Nat} {x : Operand} {v : Value} {cs : Array Value} (hc : v.cells = cs) (r : Operand → Value) (w : World) (hr : r x = v) :
    (execOp r ⟨some d, .box T x, ty, pos, af, none⟩).run P w = .ok (.value (.pointer (some ⟨w.heap.size, 0, none⟩))) (w.alloc (.cells cs T)) := by
  subst hc
  simp only [execOp, Instr.box, newVar, newRow, newObj, Sem.run_bind, Sem.run_pure, hr]
  rfl
/-- A box that is written no more. -/
theorem kl_box {T : Nat} {x : Operand} {v : Value} {cs : List Value} (hx : ev G x = some v) (hc : v.cells = cs.toArray)
    (h : ∀ p H, Fr C.B H → At H p cs → KL C dr ops Q (H :: ims) L fl.tail rest ((d, p) :: G)) (hlt : Nat.blt d C.n = true := by rfl) (hfl : fl.headD false = false := by rfl) :
    KL C dr ops Q ims L fl (⟨some d, .box T x, ty, pos, af, none⟩ :: rest) G :=
  kl_newI (v := fun b => .pointer (some ⟨b, 0, none⟩)) (fun r w hr => box_run hc r w (hr _ _ hx)) (fun b hb => h _ _ (fr_sing hb) (by simpa using At.sing (b := b) (T := T) (cs := cs.toArray) (fz := (0, 0)))) hlt hfl
/-- A box that is written. -/
theorem kl_boxL {T : Nat} {x : Operand} {v : Value} {cs : List Value} (hx : ev G x = some v) (hc : v.cells = cs.toArray)
    (h : ∀ b, C.B.heap.size ≤ b → KL C dr ops Q ims (sing b (.cells cs.toArray T) :: L) fl.tail rest ((d, .pointer (some ⟨b, 0, none⟩)) :: G)) (hlt : Nat.blt d C.n = true := by rfl) (hfl : fl.headD false = false := by rfl) :
    KL C dr ops Q ims L fl (⟨some d, .box T x, ty, pos, af, none⟩ :: rest) G :=
  kl_new (v := fun b => .pointer (some ⟨b, 0, none⟩)) (fun r w hr => box_run hc r w (hr _ _ hx)) h hlt hfl
theorem kl_alloc {T : Nat} {z : Value} {cs : List Value} [hz : ZeroC C.P T z] (hc : z.cells = cs.toArray)
    (h : ∀ b, C.B.heap.size ≤ b → KL C dr ops Q ims (sing b (.cells cs.toArray T) :: L) fl.tail rest ((d, .pointer (some ⟨b, 0, none⟩)) :: G)) (hlt : Nat.blt d C.n = true := by rfl) (hfl : fl.headD false = false := by rfl) :
    KL C dr ops Q ims L fl (⟨some d, .alloc T, ty, pos, af, none⟩ :: rest) G :=
  kl_new (v := fun b => .pointer (some ⟨b, 0, none⟩)) (fun r w hr => by
    simp only [execOp, Instr.alloc, newVar, newRow, newObj, Sem.run_bind, Sem.run_pure, zeroValue_run hz.i, Result.andThen_ok, hc]
    rfl) h hlt hfl

/-! Calls. -/
theorem kl_call {f : Operand} {xs : List Operand} {ats : Array Nat} {g : Nat} {cap : Array Value} {vs : List Value} {ims' : List Hp} {phi : Hp → Value → Prop} [hb : FnC C.P g]
    (hf : ev G f = some (.func (.func g) #[] cap)) (ha : evs G xs = some vs) (hs : Spec C.P g (vs ++ cap.toList) ims' phi) [hi : AllGot ims' ims L]
    (h : ∀ v H, Fr C.B H → phi H v → KL C dr ops Q (H :: ims) L fl.tail rest ((d, v) :: G)) (hlt : Nat.blt d C.n = true := by rfl) (hfl : fl.headD false = false := by rfl) :
    KL C dr ops Q ims L fl (⟨some d, .call ⟨.value f, xs.toArray, ats⟩, ty, pos, af, none⟩ :: rest) G :=
  kl_act rfl hfl fun a w hF hS => by
    have hrun : (execOp a.eval ⟨some d, .call ⟨.value f, xs.toArray, ats⟩, ty, pos, af, none⟩).run C.P w = .ok (.enter g (vs ++ cap.toList).toArray) w := by
      have h1 : xs.map a.eval = vs := hF.evs ha
      simp only [execOp, resolve, hF.ev hf, Deferred.ofValue, Sem.run_bind, Sem.run_pure, Result.andThen_ok, invoke, List.map_toArray, h1]
      rw [hb.run]
      simp
    unfold Oper.wp
    rw [hrun]
    refine (hs w (fun H hH => hi.g hS H hH)).mono fun e w' he => ?_
    cases e with
    | returned v =>
      obtain ⟨h1, H, h2, h3, h4⟩ := he
      exact ⟨H :: ims, L, _, .inr (fun _ u hu => hu.weak (i := ⟨fun a ha => .tail _ ha⟩) (List.Sublist.refl _)), hF.put (by simpa [Nat.blt_eq, Cx.m] using hlt),
        hS.pushIm h1 h2 h3.1, h v H ⟨fun b hb => Nat.le_trans hS.size (h3.1 b hb), h3.2⟩ h4⟩
    | panicked c => exact he
    | outgrown => exact he.elim
theorem kl_callP {f : Operand} {xs : List Operand} {ats : Array Nat} {g : Nat} {cap : Array Value} {vs : List Value} {ims' : List Hp} {v0 : Value} [hb : FnC C.P g]
    (hf : ev G f = some (.func (.func g) #[] cap)) (ha : evs G xs = some vs) (hs : SpecP C.P g (vs ++ cap.toList) ims' v0) [hi : AllGot ims' ims L]
    (h : KL C dr ops Q ims L fl.tail rest ((d, v0) :: G)) (hlt : Nat.blt d C.n = true := by rfl) (hfl : fl.headD false = false := by rfl) :
    KL C dr ops Q ims L fl (⟨some d, .call ⟨.value f, xs.toArray, ats⟩, ty, pos, af, none⟩ :: rest) G :=
  kl_act rfl hfl fun a w hF hS => by
    have hrun : (execOp a.eval ⟨some d, .call ⟨.value f, xs.toArray, ats⟩, ty, pos, af, none⟩).run C.P w = .ok (.enter g (vs ++ cap.toList).toArray) w := by
      have h1 : xs.map a.eval = vs := hF.evs ha
      simp only [execOp, resolve, hF.ev hf, Deferred.ofValue, Sem.run_bind, Sem.run_pure, Result.andThen_ok, invoke, List.map_toArray, h1]
      rw [hb.run]
      simp
    unfold Oper.wp
    rw [hrun]
    refine (hs w (fun H hH => hi.g hS H hH)).mono fun e w' he => ?_
    cases e with
    | returned v =>
      obtain ⟨h1, H, h2, h3, h4⟩ := he
      subst h4
      exact ⟨ims, L, _, .inr (fun _ u hu => hu), hF.put (by simpa [Nat.blt_eq, Cx.m] using hlt), hS.call h1, h⟩
    | panicked c => exact he
    | outgrown => exact he.elim
end acts
end Go.Proofs.Ytcdemjjgmnbkfaa
