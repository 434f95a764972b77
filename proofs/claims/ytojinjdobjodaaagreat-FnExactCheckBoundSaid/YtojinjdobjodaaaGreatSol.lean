/- Method values, and owned memory that grows together. Conditions: none. -/
import Derived.Test.YtojinjdobjodaaaGreatRng
import Derived.Test.YtojinjdobjodaaaGreatRdr
namespace Go.Proofs.YtojinjdobjodaaaGreat
open Go
set_option linter.unusedSimpArgs false
set_option linter.unusedVariables false
section ops
variable {C : Cx} {dr : Bool} {ops : Array Oper} {Q : Post} {ims L : List Hp} {G : Env} {fl : List Bool} {rest : List Oper} {d ty : Nat} {pos : String} {af : Array Edge}
theorem evs_map {G : Env} {r : Operand → Value} (hr : ∀ x v, ev G x = some v → r x = v) : ∀ {xs : List Operand} {vs : List Value}, evs G xs = some vs → xs.map r = vs := by
  intro xs
  induction xs with
  | nil => intro vs h; simp [evs] at h; simp [h]
  | cons x t ih =>
    intro vs h
    simp only [evs] at h
    split at h
    · rename_i v ws h1 h2
      simp at h; subst h
      simp [hr _ _ h1, ih h2]
    · cases h
theorem kl_mkfB {f : Fn} {bs xs : List Operand} {us vs : List Value} (hb : evs G bs = some us) (hx : evs G xs = some vs) (h : KL C dr ops Q ims L fl.tail rest ((d, .func f us.toArray vs.toArray) :: G)) (hlt : Nat.blt d C.n = true := by rfl) :
    KL C dr ops Q ims L fl (⟨some d, .makeFunc f bs.toArray xs.toArray, ty, pos, af, none⟩ :: rest) G :=
  kl_y (fun r w hr hs => by
    simp [execOp, Instr.makeFunc, evs_map hr hx, evs_map hr hb]) h hlt
theorem kl_callB {f : Operand} {xs : List Operand} {ats : Array Nat} {g : Nat} {bd cap : Array Value} {vs : List Value} {ims' : List Hp} {phi : Hp → Value → Prop} [hb : FnC C.P g]
    (hf : ev G f = some (.func (.func g) bd cap)) (ha : evs G xs = some vs) (hs : Spec C.P g (bd.toList ++ vs ++ cap.toList) ims' phi) [hi : AllGot ims' ims L]
    (h : ∀ v H, Fr C.B H → phi H v → KL C dr ops Q (H :: ims) L fl.tail rest ((d, v) :: G)) (hlt : Nat.blt d C.n = true := by rfl) (hfl : fl.headD false = false := by rfl) :
    KL C dr ops Q ims L fl (⟨some d, .call ⟨.value f, xs.toArray, ats⟩, ty, pos, af, none⟩ :: rest) G :=
  kl_act rfl hfl fun a w hF hS => by
    have hrun : (execOp a.eval ⟨some d, .call ⟨.value f, xs.toArray, ats⟩, ty, pos, af, none⟩).run C.P w = .ok (.enter g (bd.toList ++ vs ++ cap.toList).toArray) w := by
      have h1 : xs.map a.eval = vs := hF.evs ha
      simp only [execOp, resolve, hF.ev hf, Deferred.ofValue, Sem.run_bind, Sem.run_pure, Result.andThen_ok, invoke, List.map_toArray, h1]
      rw [hb.run]
      simp
    unfold Oper.wp
    rw [hrun]
    refine (hs w (fun H hH => hi.g hS H hH)).mono fun e w' he => ?_
    cases e with
    | returned v =>
      obtain ⟨h1, H, h2, h3, h4⟩ := he
      exact ⟨H :: ims, L, _, .inr (fun _ u hu => hu.weak (i := ⟨fun a ha => .tail _ ha⟩) (List.Sublist.refl _)), hF.put (by simpa [Nat.blt_eq, Cx.m] using hlt),
        hS.pushIm h1 h2 h3.1, h v H ⟨fun b hb => Nat.le_trans hS.size (h3.1 b hb), h3.2⟩ h4⟩
    | panicked c => exact he
    | outgrown => exact he.elim
end ops
theorem liq_no : Liq noHp := fun b o hb => by cases hb
theorem OwnL.liq {A : Type} {E k : Nat} {H K : Hp} {R : Rel A} {v : Value} {xs : List A} (h : OwnL E k H K R v xs) : Liq H := by
  obtain ⟨cs, ⟨_, _, h3⟩, _⟩ := h
  rcases h3 with ⟨_, _, _, rfl⟩ | ⟨b, c, cur, _, _, _, _, _, rfl⟩
  · exact liq_no
  · exact liq_sing
theorem At.take {H : Hp} {p : Value} {vs : List Value} (k : Nat) (h : At H p vs) : At H p (vs.take k) := by
  obtain ⟨b, o, cs, T, fz, h1, h2, h3⟩ := h
  refine ⟨b, o, cs, T, fz, h1, h2, fun j u hj => h3 j u ?_⟩
  rw [List.getElem?_take] at hj
  split at hj
  · exact hj
  · cases hj
/-- A struct (a part, it may be) of what is owned. -/
theorem kl_ldSL {C : Cx} {dr : Bool} {ops : Array Oper} {Q : Post} {ims L : List Hp} {G : Env} {fl : List Bool} {rest : List Oper} {d ty : Nat} {pos : String} {af : Array Edge} {H : Hp} {p : Value} {vs : List Value} {x : Operand} {T k : Nat} [hT : AggC C.P T k] [hi : In H L] (hx : ev G x = some p) (hp : At H p vs) (hk : Nat.beq vs.length k = true)
    (h : KL C dr ops Q ims L fl.tail rest ((d, .agg vs.toArray) :: G)) (hlt : Nat.blt d C.n = true := by rfl) (hlo : C.lo = false := by rfl) : KL C dr ops Q ims L fl (⟨some d, .load T x, ty, pos, af, none⟩ :: rest) G :=
  kl_y (fun r w hr hs => by
    rw [Cx.whi hlo] at hs
    have hat := hp
    obtain ⟨b, o, cs, T', fz, rfl, _⟩ := hp
    have hc := loadCells_at (P := C.P) (hs.own H hi.mem).1 hat
    rw [Nat.eq_of_beq_eq_true hk] at hc
    have h1 : (Instr.loadAt T (.pointer (some ⟨b, o, none⟩))).run C.P w = .ok (.agg vs.toArray) w := by
      simp only [Instr.loadAt, Instr.sureAddr, loadVar, Sem.run_bind, Sem.run_pure, Result.andThen_ok, AggC.run, sizeOf_run hT.i, hc, if_true]
    simp only [execOp, Sem.run_bind, hr _ _ hx, h1, Result.andThen_ok, Sem.run_pure]) h hlt
/-! Structs whose parts are structs. -/
def fillC (place : Nat → Option (Nat × Nat)) (cells : Array Value) : List (Nat × Array Value) → Option (Array Value)
  | [] => some cells
  | (i, a) :: rest =>
    match place i with
    | none => none
    | some (off, size) =>
      if a.size ≠ size || off + a.size > cells.size then none
      else fillC place (a.zipIdx.foldl (fun cs (c, j) => cs.setIfInBounds (off + j) c) cells) rest
theorem fill_c (place : Nat → Option (Nat × Nat)) : ∀ (pv : List (Nat × Value)) (cells : Array Value), Instr.fill place cells pv = fillC place cells (pv.map (fun p => (p.1, p.2.cells)))
  | [], _ => rfl
  | (i, v) :: r, cells => by
    simp only [Instr.fill, fillC, List.map_cons]
    cases place i with
    | none => rfl
    | some q =>
      obtain ⟨o, s⟩ := q
      simp only
      split
      · rfl
      · exact fill_c place r _
def fillLs (offs szs : List Nat) : List Value → List (Nat × List Value) → Option (List Value)
  | cs, [] => some cs
  | cs, (i, us) :: r => match (offs.zip szs)[i]? with
    | some (o, s) => bif Nat.beq us.length s && Nat.ble (o + us.length) cs.length then fillLs offs szs (cs.take o ++ us ++ cs.drop (o + us.length)) r else none
    | none => none
theorem fold_put (o : Nat) : ∀ (us cs : List Value) (k : Nat), o + k + us.length ≤ cs.length → (us.zipIdx k).foldl (fun (cs : Array Value) (x : Value × Nat) => cs.setIfInBounds (o + x.2) x.1) cs.toArray = (cs.take (o + k) ++ us ++ cs.drop (o + k + us.length)).toArray
  | [], cs, k, _ => by simp
  | u :: us, cs, k, h => by
    simp only [List.length_cons] at h
    rw [List.zipIdx_cons, List.foldl_cons]
    have e : cs.toArray.setIfInBounds (o + k) u = (cs.set (o + k) u).toArray := by simp
    rw [e, fold_put o us (cs.set (o + k) u) (k + 1) (by rw [List.length_set]; omega)]
    congr 1
    have h1 : (cs.set (o + k) u).take (o + (k + 1)) = cs.take (o + k) ++ [u] := by
      rw [← Nat.add_assoc, take_succ_getD undef (by rw [List.length_set]; omega), List.take_set_of_le (Nat.le_refl _)]
      congr 2
      rw [List.getD_eq_getElem?_getD, List.getElem?_set_self (by omega)]; rfl
    have h2 : (cs.set (o + k) u).drop (o + (k + 1) + us.length) = cs.drop (o + k + (u :: us).length) := by
      rw [List.drop_set_of_lt (by omega)]
      congr 1; simp only [List.length_cons]; omega
    rw [h1, h2]; simp
theorem fill_ls {offs szs : List Nat} : ∀ {pc : List (Nat × List Value)} {cs us : List Value}, fillLs offs szs cs pc = some us → fillC ((offs.zip szs).toArray[·]?) cs.toArray (pc.map (fun p => (p.1, p.2.toArray))) = some us.toArray
  | [], cs, us, h => by
    simp only [fillLs, Option.some.injEq] at h
    subst h; rfl
  | (i, vs) :: r, cs, us, h => by
    simp only [fillLs] at h
    split at h
    · rename_i o s hi
      cases hb : (Nat.beq vs.length s && Nat.ble (o + vs.length) cs.length) with
      | false => rw [hb] at h; cases h
      | true =>
        rw [hb] at h
        simp only [Bool.and_eq_true] at hb
        have h1 := Nat.eq_of_beq_eq_true hb.1
        have h2 := Nat.le_of_ble_eq_true hb.2
        have ih := fill_ls h
        simp only [List.map_cons, fillC, List.getElem?_toArray, hi]
        rw [if_neg (by simp; omega)]
        have e : vs.toArray.zipIdx.foldl (fun cs (x : Value × Nat) => cs.setIfInBounds (o + x.2) x.1) cs.toArray = (cs.take o ++ vs ++ cs.drop (o + vs.length)).toArray := by
          have := fold_put o vs cs 0 (by omega)
          simpa using this
        have e2 : vs.toArray.zipIdx.foldl (fun cs (c, j) => cs.setIfInBounds (o + j) c) cs.toArray = (cs.take o ++ vs ++ cs.drop (o + vs.length)).toArray := e
        rw [e2]; simp only [List.getElem?_toArray] at ih; exact ih
    · cases h
theorem cpa_nil : ([] : List (Nat × Value)).map (fun p => (p.1, p.2.cells)) = ([] : List (Nat × List Value)).map (fun p => (p.1, p.2.toArray)) := rfl
theorem cpa {i : Nat} {v : Value} {a : List Value} {r : List (Nat × Value)} {t : List (Nat × List Value)} (h : v.cells = a.toArray) (k : r.map (fun p => (p.1, p.2.cells)) = t.map (fun p => (p.1, p.2.toArray))) : ((i, v) :: r).map (fun p => (p.1, p.2.cells)) = ((i, a) :: t).map (fun p => (p.1, p.2.toArray)) := by
  simp only [List.map_cons]; rw [k, h]
theorem kl_bdA {C : Cx} {dr : Bool} {ops : Array Oper} {Q : Post} {ims L : List Hp} {G : Env} {fl : List Bool} {rest : List Oper} {d ty : Nat} {pos : String} {af : Array Edge} {T : Nat} {offs szs : List Nat} {zs : List Value} (pc : List (Nat × List Value)) (us : List Value) [hS : StrC C.P T offs szs zs] {ps : List (Nat × Operand)} {pv : List (Nat × Value)} (hp : evp G ps = some pv) (hu : pv.map (fun p => (p.1, p.2.cells)) = pc.map (fun p => (p.1, p.2.toArray))) (hb : fillLs offs szs zs pc = some us)
    (h : KL C dr ops Q ims L fl.tail rest ((d, .agg us.toArray) :: G)) (hlt : Nat.blt d C.n = true := by rfl) : KL C dr ops Q ims L fl (⟨some d, .build T ps.toArray, ty, pos, af, none⟩ :: rest) G :=
  kl_y (fun r w hr _ => by
    obtain ⟨fs, h1, h2⟩ := hS.u
    have hz := zeroValue_run (P := C.P) hS.z w
    have hff : Instr.fill ((offs.zip szs).toArray[·]?) zs.toArray pv = some us.toArray := by rw [fill_c, hu]; exact fill_ls hb
    simp only [execOp, Instr.build, Sem.run_bind, List.map_toArray, evp_run hr hp, hz, run_underlying h1, Result.andThen_ok, h2 w]
    have e : (Value.agg zs.toArray).cells = zs.toArray := rfl
    rw [e, hff]
    rfl) h hlt
end Go.Proofs.YtojinjdobjodaaaGreat
