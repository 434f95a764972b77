/- Compatible heaplets, results in a cell, bits of integers. Conditions: none. -/
import Derived.Test.YtcdemjjgmnbkfaaList
namespace Go.Proofs.Ytcdemjjgmnbkfaa
open Go
set_option linter.unusedSimpArgs false
set_option linter.unusedVariables false

/-- Two heaplets of one world. -/
def Cmp (H K : Hp) : Prop := ∀ b o o', H b = some o → K b = some o' → o = o'
theorem Cmp.symm {H K : Hp} (h : Cmp H K) : Cmp K H := fun b o o' h1 h2 => (h b o' o h2 h1).symm
theorem orC {H K : Hp} (c : Cmp H K) : ∀ b o, K b = some o → orHp H K b = some o := fun b o h => by
  cases hh : H b with
  | none => simp [orHp, hh, h]
  | some x => simp [orHp, hh, c b x o hh h]
theorem agree_cmp {H K : Hp} {w : World} (h : Agree H w) (k : Agree K w) : Cmp H K := fun b o o' h1 h2 => by
  have := (h b o h1).symm.trans (k b o' h2)
  simpa using this
section
variable {C : Cx} {Q : Post} {ims L : List Hp} {G : Env}
theorem kc_cmp (H K : Hp) [g : Got H ims L] [k : Got K ims L] {c : Code} (h : Cmp H K → KC C Q ims L c G) : KC C Q ims L c G := fun a w hf hs => h (agree_cmp (g.g hs) (k.g hs)) a w hf hs
theorem kq_cmp (H K : Hp) [g : Got H ims L] [k : Got K ims L] {p : Act → World → Prop} (h : Cmp H K → KQ C ims L G p) : KQ C ims L G p := fun a w hf hs => h (agree_cmp (g.g hs) (k.g hs)) a w hf hs
theorem kl_cmp (H K : Hp) [g : Got H ims L] [k : Got K ims L] {dr : Bool} {ops : Array Oper} {fl : List Bool} {l : List Oper} (h : Cmp H K → KL C dr ops Q ims L fl l G) : KL C dr ops Q ims L fl l G :=
  fun a w hf hs => h (agree_cmp (g.g hs) (k.g hs)) a w hf hs
end
theorem oc_nil : ∀ x ∈ ([] : List Value), x.oneCell' = true := fun _ h => by cases h
theorem oc {u : Value} {us : List Value} (h : u.oneCell' = true) (t : ∀ x ∈ us, x.oneCell' = true) : ∀ x ∈ u :: us, x.oneCell' = true := fun x hx => by
  cases hx with
  | head => exact h
  | tail _ hx => exact t x hx
theorem ca_nil : ∀ x ∈ ([] : List Value), x.cells = #[x] := fun _ h => by cases h
theorem ca {u : Value} {us : List Value} (h : u.cells = #[u]) (t : ∀ x ∈ us, x.cells = #[x]) : ∀ x ∈ u :: us, x.cells = #[x] := fun x hx => by
  cases hx with
  | head => exact h
  | tail _ hx => exact t x hx

section rets
variable {P : Program} {n : Nat} {B : World} {ims L : List Hp} {G : Env} {fn : Func} {phi : Hp → Value → Prop}
theorem kq_retC {a T b E k : Nat} {cs : List Value} {F : List Value → List Hp} [hT : AggC P T k] [hF : BoxF b cs E L F] (hr : fn.results = #[.cell a T]) (hv : look a G = some (.pointer (some ⟨b, 0, none⟩))) (hk : Nat.beq cs.length k = true)
    (H : Hp) [hg : Got H ims L] (hf : Fr B H) (hp : phi H (.agg cs.toArray)) : KQ ⟨P, n, B, noS, false, [], none⟩ ims L G (bodyPost P fn (Res B phi) .ret) := fun a' w hFt hS => by
  refine ⟨hFt.defers, .agg cs.toArray, ?_, hS.toExt, H, hg.g hS, hf, hp⟩
  have hA := (hS.own _ (hF.u cs).mem).1
  have hat : At (sing b (.cells cs.toArray E (0, 0))) (.pointer (some ⟨b, 0, none⟩)) cs := At.sing (cs := cs.toArray)
  have hc := loadCells_at (P := P) hA hat
  rw [Nat.eq_of_beq_eq_true hk] at hc
  have h1 : (loadVar T ⟨b, 0, none⟩).run P w = .ok (.agg cs.toArray) w := by
    simp only [loadVar, Sem.run_bind, Sem.run_pure, Result.andThen_ok, AggC.run, sizeOf_run hT.i, hc, if_true]
  have h2 : a'.tmps.getD a undef = .pointer (some ⟨b, 0, none⟩) := (hFt.get a _ hv).2
  simp [results, hr, asAddr]
  simp at h2
  simp [h2, h1]
end rets

/-! A call whose result the caller may write. -/
theorem kl_callL {C : Cx} {dr : Bool} {ops : Array Oper} {Q : Post} {ims L : List Hp} {G : Env} {fl : List Bool} {rest : List Oper} {d ty : Nat} {pos : String} {af : Array Edge}
    {f : Operand} {xs : List Operand} {ats : Array Nat} {g : Nat} {cap : Array Value} {vs : List Value} {ims' : List Hp} {phi : Hp → Value → Prop} [hb : FnC C.P g]
    (hf : ev G f = some (.func (.func g) #[] cap)) (ha : evs G xs = some vs) (hs : Spec C.P g (vs ++ cap.toList) ims' phi) [hi : AllGot ims' ims L]
    (h : ∀ v H, Fr C.B H → phi H v → KL C dr ops Q ims (H :: L) fl.tail rest ((d, v) :: G)) (hlt : Nat.blt d C.n = true := by rfl) (hfl : fl.headD false = false := by rfl) :
    KL C dr ops Q ims L fl (⟨some d, .call ⟨.value f, xs.toArray, ats⟩, ty, pos, af, none⟩ :: rest) G :=
  kl_act rfl hfl fun a w hF hS => by
    have hrun : (execOp a.eval ⟨some d, .call ⟨.value f, xs.toArray, ats⟩, ty, pos, af, none⟩).run C.P w = .ok (.enter g (vs ++ cap.toList).toArray) w := by
      have h1 : xs.map a.eval = vs := hF.evs ha
      simp only [execOp, resolve, hF.ev hf, Deferred.ofValue, Sem.run_bind, Sem.run_pure, Result.andThen_ok, invoke, List.map_toArray, h1]
      rw [hb.run]
      simp
    unfold Oper.wp
    rw [hrun]
    refine (hs w (fun H hH => hi.g hS H hH)).mono fun e w' he => ?_
    cases e with
    | returned v =>
      obtain ⟨h1, H, h2, h3, h4⟩ := he
      exact ⟨ims, H :: L, _, .inr (fun _ u hu => hu.wl (.cons _ (List.Sublist.refl _))), hF.put (by simpa [Nat.blt_eq, Cx.m] using hlt),
        hS.push h1 h2 h3.1, h v H ⟨fun b hb => Nat.le_trans hS.size (h3.1 b hb), h3.2⟩ h4⟩
    | panicked c => exact he
    | outgrown => exact he.elim

/-! Fixed memory that is put together in a loop. -/
class GotI (H : Hp) (ims : List Hp) : Prop where
  g : ∀ {B : World} {X : Side} {L : List Hp} {w : World}, St B X ims L w → Agree H w ∧ ∀ K ∈ L, Apart K H
  d : ∀ b, H b ≠ none → ∃ K ∈ ims, K b ≠ none
instance (ims : List Hp) : GotI noHp ims := ⟨fun _ => ⟨agree_no _, fun _ _ _ => .inr rfl⟩, fun _ h => absurd rfl h⟩
instance (H K : Hp) (ims : List Hp) [h : GotI H ims] [k : GotI K ims] : GotI (orHp H K) ims :=
  ⟨fun s => ⟨agree_or (h.g s).1 (k.g s).1, fun M hM b => by
    rcases (h.g s).2 M hM b with h1 | h1
    · exact .inl h1
    · rcases (k.g s).2 M hM b with h2 | h2
      · exact .inl h2
      · exact .inr (by simp [orHp, h1, h2])⟩, fun b hb => by
    cases hh : H b with
    | some o => exact h.d b (by rw [hh]; simp)
    | none => exact k.d b (by simpa [orHp, hh] using hb)⟩
instance (H : Hp) (ims : List Hp) [i : In H ims] : GotI H ims := ⟨fun s => ⟨s.im H i.mem, fun K hK => (s.own K hK).2.2 H i.mem⟩, fun _ hb => ⟨H, i.mem, hb⟩⟩
theorem kc_loopK {C : Cx} {Q : Post} {ims L : List Hp} {G : Env} {A : Type} {body : Code} (J : A → Prop) (mu : A → Nat) (Kf : A → Hp) (Lf : A → List Hp) (Gf : A → Env) (x0 : A) {Gx : Env} (hx : Pick G Gx) (hg : Pick G (Gf x0)) [gi : GotI (Kf x0) ims] (hl : L = Lf x0) (h0 : J x0)
    (round : ∀ x, J x → KC C (Exit.then (fun a w => ∃ x', mu x' < mu x ∧ J x' ∧ Fit C.m (Gf x' ++ Gx) a ∧ St C.B C.X (Kf x' :: ims) (Lf x') w) Q) (Kf x :: ims) (Lf x) body (Gf x ++ Gx)) :
    KC C Q ims L (.loop body) G := by
  have h : KC C Q (Kf x0 :: ims) L (.loop body) G :=
    kc_loop J mu (fun x => [Kf x]) Lf Gf x0 (ims0 := ims) hx hg rfl hl h0 round
  intro a w hf hs
  exact h a w hf (hs.addIm (gi.g hs).1 (gi.g hs).2 gi.d)
theorem kq_roundK {C : Cx} {ims L : List Hp} {G : Env} {A : Type} {J : A → Prop} {mu : A → Nat} {Kf : A → Hp} {Lf : A → List Hp} {Gf : A → Env} {x : A} {Gx : Env} {ims0 L0 : List Hp} (x' : A)
    (hlt : mu x' < mu x) (hJ : J x') (hg : Pick G (Gf x')) (hx : Pick G Gx) (hl : L0 = Lf x') [gi : GotI (Kf x') ims] [hi : AllIn ims0 ims] (hs : List.Sublist L0 L) :
    KQ C ims L G (fun a w => ∃ x', mu x' < mu x ∧ J x' ∧ Fit C.m (Gf x' ++ Gx) a ∧ St C.B C.X (Kf x' :: ims0) (Lf x') w) :=
  fun _ _ hf hs' => ⟨x', hlt, hJ, (hg.app hx).fit hf, by
    subst hl
    have h1 : St C.B C.X (Kf x' :: ims) L _ := hs'.addIm (gi.g hs').1 (gi.g hs').2 gi.d
    have i2 : AllIn (Kf x' :: ims0) (Kf x' :: ims) := ⟨fun a ha => by
      cases ha with
      | head => exact .head _
      | tail _ ha => exact .tail _ (hi.all a ha)⟩
    exact h1.weak (i := i2) hs⟩
theorem kl_gU {C : Cx} {dr : Bool} {ops : Array Oper} {Q : Post} {ims L : List Hp} {G : Env} {fl : List Bool} {rest : List Oper} {d ty : Nat} {pos : String} {af : Array Edge}
    {op : Op} {j dj : Nat} {c : Bool} (hj : (ops[j]?).bind (·.dst) = some dj) (hv : look dj G = some undef)
    (h : KL C dr ops Q ims L fl.tail rest ((d, undef) :: G)) (hlt : Nat.blt d C.n = true := by rfl) : KL C dr ops Q ims L fl (⟨some d, op, ty, pos, af, some (j, c)⟩ :: rest) G := fun a w hf hs => by
  obtain ⟨h2, h3⟩ := hf.get dj _ hv
  have hy : yielded ops a.tmps j = none := by
    unfold yielded
    rw [hj]
    simp only [Option.bind_some]
    have : a.tmps[dj]? = some undef := by
      rw [Array.getElem?_eq_getElem (by rw [hf.size]; exact h2)]
      rw [← h3]
      simp [Array.getD, hf.size, h2]
    rw [this]
    rfl
  unfold wpSeq
  have : Region.wanted ⟨some d, op, ty, pos, af, some (j, c)⟩ (yielded ops a.tmps) = false := by simp [Region.wanted, hy]
  rw [if_neg (by simp [this])]
  exact h _ w (hf.put (by simpa [Nat.blt_eq, Cx.m] using hlt)) hs

/-! Bits. -/
def iand (x y : Int) : Int := bits .and .i64 x y
def ior (x y : Int) : Int := bits .or .i64 x y
def ixor (x y : Int) : Int := bits .xor .i64 x y
def iandNot (x y : Int) : Int := bits .andNot .i64 x y
def ishl (x y : Int) : Int := IntKind.i64.wrap (x * 2 ^ min y.toNat 64)
def ishr (x y : Int) : Int := x.fdiv (2 ^ min y.toNat 64)
section ops
variable {C : Cx} {dr : Bool} {ops : Array Oper} {Q : Post} {ims L : List Hp} {G : Env} {fl : List Bool} {rest : List Oper}
  {d ty : Nat} {pos : String} {af : Array Edge} {x y : Operand} {T T2 : Nat} {m k : Int} (hx : ev G x = some (.int .i64 m)) (hy : ev G y = some (.int .i64 k))
include hx hy
theorem kl_and (h : KL C dr ops Q ims L fl.tail rest ((d, .int .i64 (iand m k)) :: G)) (hlt : Nat.blt d C.n = true := by rfl) :
    KL C dr ops Q ims L fl (⟨some d, .binOp .and T x y T2, ty, pos, af, none⟩ :: rest) G := kl_y (fun a w hf _ => by simp [go_sem, hf _ _ hx, hf _ _ hy, iand]) h hlt
theorem kl_or (h : KL C dr ops Q ims L fl.tail rest ((d, .int .i64 (ior m k)) :: G)) (hlt : Nat.blt d C.n = true := by rfl) :
    KL C dr ops Q ims L fl (⟨some d, .binOp .or T x y T2, ty, pos, af, none⟩ :: rest) G := kl_y (fun a w hf _ => by simp [go_sem, hf _ _ hx, hf _ _ hy, ior]) h hlt
theorem kl_xor (h : KL C dr ops Q ims L fl.tail rest ((d, .int .i64 (ixor m k)) :: G)) (hlt : Nat.blt d C.n = true := by rfl) :
    KL C dr ops Q ims L fl (⟨some d, .binOp .xor T x y T2, ty, pos, af, none⟩ :: rest) G := kl_y (fun a w hf _ => by simp [go_sem, hf _ _ hx, hf _ _ hy, ixor]) h hlt
theorem kl_andNot (h : KL C dr ops Q ims L fl.tail rest ((d, .int .i64 (iandNot m k)) :: G)) (hlt : Nat.blt d C.n = true := by rfl) :
    KL C dr ops Q ims L fl (⟨some d, .binOp .andNot T x y T2, ty, pos, af, none⟩ :: rest) G := kl_y (fun a w hf _ => by simp [go_sem, hf _ _ hx, hf _ _ hy, iandNot]) h hlt
theorem kl_shl (h0 : 0 ≤ k) (h : KL C dr ops Q ims L fl.tail rest ((d, .int .i64 (ishl m k)) :: G)) (hlt : Nat.blt d C.n = true := by rfl) :
    KL C dr ops Q ims L fl (⟨some d, .binOp .shl T x y T2, ty, pos, af, none⟩ :: rest) G := kl_y (fun a w hf _ => by
      have : ¬ k < 0 := by omega
      simp [go_sem, hf _ _ hx, hf _ _ hy, ishl, Op.shift, this, IntKind.bits]) h hlt
theorem kl_shr (h0 : 0 ≤ k) (h : KL C dr ops Q ims L fl.tail rest ((d, .int .i64 (ishr m k)) :: G)) (hlt : Nat.blt d C.n = true := by rfl) :
    KL C dr ops Q ims L fl (⟨some d, .binOp .shr T x y T2, ty, pos, af, none⟩ :: rest) G := kl_y (fun a w hf _ => by
      have : ¬ k < 0 := by omega
      simp [go_sem, hf _ _ hx, hf _ _ hy, ishr, Op.shift, this, IntKind.bits]) h hlt
end ops
theorem kl_neg {C : Cx} {dr : Bool} {ops : Array Oper} {Q : Post} {ims L : List Hp} {G : Env} {fl : List Bool} {rest : List Oper} {d ty : Nat} {pos : String} {af : Array Edge} {x : Operand} {T : Nat} {m : Int}
    (hx : ev G x = some (.int .i64 m)) (hb : -9223372036854775807 ≤ m ∧ m ≤ 9223372036854775807) (h : KL C dr ops Q ims L fl.tail rest ((d, .int .i64 (-m)) :: G)) (hlt : Nat.blt d C.n = true := by rfl) :
    KL C dr ops Q ims L fl (⟨some d, .unOp .neg T x, ty, pos, af, none⟩ :: rest) G :=
  kl_y (fun a w hf _ => by
    have := wrap_in (z := 0 - m) (by omega)
    simp only [Int.zero_sub] at this
    simp [go_sem, hf _ _ hx, Op.unary, Op.intArith, this]) h hlt
/-- A list of integers that is written out and owned. -/
theorem kl_bsI {C : Cx} {dr : Bool} {ops : Array Oper} {Q : Post} {ims L : List Hp} {G : Env} {fl : List Bool} {rest : List Oper} {d ty : Nat} {pos : String} {af : Array Edge}
    {T E by' n : Nat} {z : Value} [hT : IsSlice C.P T E 1 by' z] {ps : List (Nat × Operand)} {pv : List (Nat × Value)} (xs : List Int)
    (hp : evp G ps = some pv) (he : pv = enumV 0 (xs.map (Value.int .i64))) (hn : Nat.beq (xs.map (Value.int .i64)).length n = true) (hm : n ≤ 1000)
    (h : ∀ v H, Fr C.B H → OwnL E 1 H noHp IntV v xs → KL C dr ops Q ims (H :: L) fl.tail rest ((d, v) :: G)) (hlt : Nat.blt d C.n = true := by rfl) (hfl : fl.headD false = false := by rfl) :
    KL C dr ops Q ims L fl (⟨some d, .buildSlice T n ps.toArray, ty, pos, af, none⟩ :: rest) G :=
  kl_bsO hp he hn hm (fun u hu => by obtain ⟨x, _, rfl⟩ := List.mem_map.1 hu; rfl) (fun v H f o => h v H f ⟨xs.map (Value.int .i64), by
    have := Nat.eq_of_beq_eq_true hn; simp only [List.length_map] at this; rw [this]; exact o, fun i hi => by
    simp only [IntV, Nat.mul_one]
    rw [List.take_one, List.head?_drop]; simp [hi]⟩) hlt hfl
end Go.Proofs.Ytcdemjjgmnbkfaa
