/- Bytes, and the stream of numbers that is drawn from them. Conditions: none. -/
import Derived.Test.YtojinjdobjodaaaGreatTri
import Derived.Test.YtojinjdobjodaaaGreatU
import Derived.Test.YtojinjdobjodaaaGreatPure
import Derived.Test.YtojinjdobjodaaaGreatTre
import Derived.Test.YtojinjdobjodaaaGreatRng
namespace Go.Proofs.YtojinjdobjodaaaGreat
open Go
set_option linter.unusedSimpArgs false
set_option linter.unusedVariables false
def ByteC (vs : List Value) (n : Int) : Prop := vs = [.int .u8 n] ∧ 0 ≤ n ∧ n < 256
abbrev Bytes (H : Hp) (v : Value) (xs : List Int) : Prop := Sl H 1 ByteC v xs
section ops
variable {C : Cx} {dr : Bool} {ops : Array Oper} {Q : Post} {ims L : List Hp} {G : Env} {fl : List Bool} {rest : List Oper} {d ty : Nat} {pos : String} {af : Array Edge}
theorem kl_cvi {T T' : Nat} {m : Int} {κ2 : IntKind} {x : Operand} [hT : IsInt C.P T' .i64] [hS : IsInt C.P T κ2] (hx : ev G x = some (.int κ2 m)) (hb : -9223372036854775808 ≤ m ∧ m ≤ 9223372036854775807) (h : KL C dr ops Q ims L fl.tail rest ((d, .int .i64 m) :: G)) (hlt : Nat.blt d C.n = true := by rfl) :
    KL C dr ops Q ims L fl (⟨some d, .convert T T' x, ty, pos, af, none⟩ :: rest) G := kl_cv hx (by
      have e : IntKind.i64.wrap m = m := by rw [IntKind.wrap_i64]; omega
      rw [e]; exact h) hlt
end ops
/-! A struct that is written out, its parts of one cell each. -/
class StrC (P : Program) (T : Nat) (offs szs : outParam (List Nat)) (zs : outParam (List Value)) : Prop where
  z : (P.info? T).map (·.zero) = some (some (.agg zs.toArray))
  u : ∃ fs : Array Field, P.underlying T = some (.struct fs) ∧ ∀ w, (fs.mapM (fun f => do pure (f.offset, ← Go.sizeOf f.type) : Field → Sem (Nat × Nat))).run P w = .ok (offs.zip szs).toArray w
theorem places2 {P : Program} {t0 o0 s0 t1 o1 s1 : Nat} {f0 f1 : Field} (e0 : f0.type = t0) (e1 : f1.type = t1) (p0 : f0.offset = o0) (p1 : f1.offset = o1) (h0 : (P.info? t0).map (·.size) = some s0) (h1 : (P.info? t1).map (·.size) = some s1) (w : World) :
    ((#[f0, f1] : Array Field).mapM (fun f => do pure (f.offset, ← Go.sizeOf f.type) : Field → Sem (Nat × Nat))).run P w = .ok #[(o0, s0), (o1, s1)] w := by
  subst e0 p0 e1 p1
  simp [sizeOf_run h0 w, sizeOf_run h1 w]
theorem places3 {P : Program} {t0 o0 s0 t1 o1 s1 t2 o2 s2 : Nat} {f0 f1 f2 : Field} (e0 : f0.type = t0) (e1 : f1.type = t1) (e2 : f2.type = t2) (p0 : f0.offset = o0) (p1 : f1.offset = o1) (p2 : f2.offset = o2) (h0 : (P.info? t0).map (·.size) = some s0) (h1 : (P.info? t1).map (·.size) = some s1) (h2 : (P.info? t2).map (·.size) = some s2) (w : World) :
    ((#[f0, f1, f2] : Array Field).mapM (fun f => do pure (f.offset, ← Go.sizeOf f.type) : Field → Sem (Nat × Nat))).run P w = .ok #[(o0, s0), (o1, s1), (o2, s2)] w := by
  subst e0 p0 e1 p1 e2 p2
  simp [sizeOf_run h0 w, sizeOf_run h1 w, sizeOf_run h2 w]
theorem places4 {P : Program} {t0 o0 s0 t1 o1 s1 t2 o2 s2 t3 o3 s3 : Nat} {f0 f1 f2 f3 : Field} (e0 : f0.type = t0) (e1 : f1.type = t1) (e2 : f2.type = t2) (e3 : f3.type = t3) (p0 : f0.offset = o0) (p1 : f1.offset = o1) (p2 : f2.offset = o2) (p3 : f3.offset = o3) (h0 : (P.info? t0).map (·.size) = some s0) (h1 : (P.info? t1).map (·.size) = some s1) (h2 : (P.info? t2).map (·.size) = some s2) (h3 : (P.info? t3).map (·.size) = some s3) (w : World) :
    ((#[f0, f1, f2, f3] : Array Field).mapM (fun f => do pure (f.offset, ← Go.sizeOf f.type) : Field → Sem (Nat × Nat))).run P w = .ok #[(o0, s0), (o1, s1), (o2, s2), (o3, s3)] w := by
  subst e0 p0 e1 p1 e2 p2 e3 p3
  simp [sizeOf_run h0 w, sizeOf_run h1 w, sizeOf_run h2 w, sizeOf_run h3 w]
theorem places5 {P : Program} {t0 o0 s0 t1 o1 s1 t2 o2 s2 t3 o3 s3 t4 o4 s4 : Nat} {f0 f1 f2 f3 f4 : Field} (e0 : f0.type = t0) (e1 : f1.type = t1) (e2 : f2.type = t2) (e3 : f3.type = t3) (e4 : f4.type = t4) (p0 : f0.offset = o0) (p1 : f1.offset = o1) (p2 : f2.offset = o2) (p3 : f3.offset = o3) (p4 : f4.offset = o4) (h0 : (P.info? t0).map (·.size) = some s0) (h1 : (P.info? t1).map (·.size) = some s1) (h2 : (P.info? t2).map (·.size) = some s2) (h3 : (P.info? t3).map (·.size) = some s3) (h4 : (P.info? t4).map (·.size) = some s4) (w : World) :
    ((#[f0, f1, f2, f3, f4] : Array Field).mapM (fun f => do pure (f.offset, ← Go.sizeOf f.type) : Field → Sem (Nat × Nat))).run P w = .ok #[(o0, s0), (o1, s1), (o2, s2), (o3, s3), (o4, s4)] w := by
  subst e0 p0 e1 p1 e2 p2 e3 p3 e4 p4
  simp [sizeOf_run h0 w, sizeOf_run h1 w, sizeOf_run h2 w, sizeOf_run h3 w, sizeOf_run h4 w]
def bput (offs szs : List Nat) : List Value → List (Nat × Value) → Option (List Value)
  | cs, [] => some cs
  | cs, (i, v) :: r => match (offs.zip szs)[i]? with
    | some (o, 1) => bif Nat.blt o cs.length then bput offs szs (cs.set o v) r else none
    | _ => none
theorem fill_bput {offs szs : List Nat} : ∀ {pv : List (Nat × Value)} {cs us : List Value}, (∀ p ∈ pv, p.2.cells = #[p.2]) → bput offs szs cs pv = some us → Instr.fill ((offs.zip szs).toArray[·]?) cs.toArray pv = some us.toArray
  | [], cs, us, _, h => by
    simp only [bput, Option.some.injEq] at h
    subst h; rfl
  | (i, v) :: r, cs, us, hu, h => by
    simp only [bput] at h
    split at h
    · rename_i o hi
      cases hb : Nat.blt o cs.length with
      | false => rw [hb] at h; cases h
      | true =>
        rw [hb] at h
        have ho : o < cs.length := by simpa [Nat.blt_eq] using hb
        have hv : v.cells = #[v] := hu _ (.head _)
        have ih := fill_bput (fun p hp => hu p (.tail _ hp)) h
        unfold Instr.fill
        simp only [List.getElem?_toArray, hi, hv]
        simp only [List.size_toArray, List.length_cons, List.length_nil, ne_eq, not_true_eq_false, decide_false, Bool.false_or]
        rw [if_neg (by simp; omega)]
        have e : (#[v].zipIdx.foldl (fun cs (x : Value × Nat) => cs.setIfInBounds (o + x.2) x.1) cs.toArray) = (cs.set o v).toArray := by
          simp
        have e2 : (#[v].zipIdx.foldl (fun cs (c, j) => cs.setIfInBounds (o + j) c) cs.toArray) = (cs.set o v).toArray := e
        rw [e2]; simp only [List.getElem?_toArray] at ih; exact ih
    · cases h
theorem cp_nil : ∀ p ∈ ([] : List (Nat × Value)), p.2.cells = #[p.2] := fun _ h => by cases h
theorem cp {i : Nat} {v : Value} {r : List (Nat × Value)} (h : v.cells = #[v]) (t : ∀ p ∈ r, p.2.cells = #[p.2]) : ∀ p ∈ (i, v) :: r, p.2.cells = #[p.2] := fun p hp => by
  cases hp with
  | head => exact h
  | tail _ hp => exact t p hp
section blds
variable {C : Cx} {dr : Bool} {ops : Array Oper} {Q : Post} {ims L : List Hp} {G : Env} {fl : List Bool} {rest : List Oper} {d ty : Nat} {pos : String} {af : Array Edge}
theorem kl_bd {T : Nat} {offs szs : List Nat} {zs us : List Value} [hS : StrC C.P T offs szs zs] {ps : List (Nat × Operand)} {pv : List (Nat × Value)} (hp : evp G ps = some pv) (hu : ∀ p ∈ pv, p.2.cells = #[p.2]) (hb : bput offs szs zs pv = some us)
    (h : KL C dr ops Q ims L fl.tail rest ((d, .agg us.toArray) :: G)) (hlt : Nat.blt d C.n = true := by rfl) : KL C dr ops Q ims L fl (⟨some d, .build T ps.toArray, ty, pos, af, none⟩ :: rest) G :=
  kl_y (fun r w hr _ => by
    obtain ⟨fs, h1, h2⟩ := hS.u
    have hz := zeroValue_run (P := C.P) hS.z w
    have hff := fill_bput hu hb
    simp only [execOp, Instr.build, Sem.run_bind, List.map_toArray, evp_run hr hp, hz, run_underlying h1, Result.andThen_ok, h2 w]
    have e : (Value.agg zs.toArray).cells = zs.toArray := rfl
    rw [e, hff]
    rfl) h hlt
theorem fill_five {a b c d e : Value} : ∀ {cells : Array Value}, cells.size = 5 → Instr.fill (fun i => some (i * 5, 5)) cells [(0, .agg #[a, b, c, d, e])] = some #[a, b, c, d, e]
  | ⟨[c0, c1, c2, c3, c4]⟩, _ => rfl
/-- One constraint in a list that is written out: fixed memory. -/
theorem kl_bsK {T E by' : Nat} {z a b c e f : Value} [hT : IsSlice C.P T E 5 by' z] {ps : List (Nat × Operand)} (hp : evp G ps = some [(0, .agg #[a, b, c, e, f])])
    (h : ∀ v H, Fr C.B H → Rd H 5 v 1 [a, b, c, e, f] → KL C dr ops Q (H :: ims) L fl.tail rest ((d, v) :: G)) (hlt : Nat.blt d C.n = true := by rfl) (hfl : fl.headD false = false := by rfl) :
    KL C dr ops Q ims L fl (⟨some d, .buildSlice T 1 ps.toArray, ty, pos, af, none⟩ :: rest) G := by
  refine kl_newI (v := fun b => .slice (some ⟨b, 0, none⟩) 1 1) (o := .cells #[a, b, c, e, f] E) (fun r w hr => ?_) (fun q hb => h _ _ (fr_sing hb) ?_) hlt hfl
  · have hps := evp_run hr hp
    have hz := hT.z
    have hzv : (zeroValue E).run C.P w = .ok z w := zeroValue_run (by obtain ⟨i, hi, hz', _⟩ := hT.info; simp [hi, hz']) w
    have key : (Instr.buildSlice T 1 [((0 : Nat), Value.agg #[a, b, c, e, f])].toArray).run C.P w = .ok (.slice (some ⟨w.heap.size, 0, none⟩) 1 1) (w.alloc (.cells #[a, b, c, e, f] E)) := by
      have hff := fill_five (a := a) (b := b) (c := c) (d := e) (e := f) (cells := (Array.range (1 * 5)).map (z.cells[· % z.cells.size]!)) (by simp)
      simp only [Instr.buildSlice, Sem.run_bind, run_underlying hT.u, Result.andThen_ok, sizeOf_run hT.size]
      rw [if_neg (by decide), if_neg (by decide)]
      simp only [Sem.run_bind, hzv, Result.andThen_ok, Sem.run_pure, hff]
      rfl
    simp only [execOp, Sem.run_bind, List.map_toArray, hps, key, Result.andThen_ok, Sem.run_pure]
  · exact ⟨some ⟨q, 0, none⟩, 1, rfl, by simp, fun j u hj => ⟨q, 0, #[a, b, c, e, f], E, (0, 0), rfl, by simp, by simpa using hj⟩⟩
/-- x[:i] of what is owned. -/
theorem kl_slTakeL {A : Type} {R : Rel A} {E k : Nat} {H K : Hp} {v : Value} {xs : List A} {x y : Operand} {i : Nat} {T k' by' : Nat} {z : Value} [hT : IsSlice C.P T E k' by' z]
    (hx : ev G x = some v) (hy : ev G y = some (.int .i64 (i : Int))) (hv : OwnL E k H K R v xs) (h1 : i ≤ xs.length)
    (h : ∀ u, OwnL E k H K R u (xs.take i) → KL C dr ops Q ims L fl.tail rest ((d, u) :: G)) (hlt : Nat.blt d C.n = true := by rfl) :
    KL C dr ops Q ims L fl (⟨some d, .slice T x none (some y) none, ty, pos, af, none⟩ :: rest) G := by
  obtain ⟨cs, ⟨hl, hb, ho⟩, hR⟩ := hv
  have hik : i * k ≤ xs.length * k := Nat.mul_le_mul_right _ h1
  have hRR : ∀ j (hj : j < (xs.take i).length), R K (((cs.take (i * k)).drop (j * k)).take k) (xs.take i)[j] := fun j hj => by
    have hj' : j < i := by simp at hj; omega
    have hjk : (j + 1) * k ≤ i * k := Nat.mul_le_mul_right _ hj'
    rw [Nat.add_mul] at hjk
    have h3 := hR j (by omega)
    have e : ((cs.take (i * k)).drop (j * k)).take k = (cs.drop (j * k)).take k := by
      rw [List.drop_take, List.take_take]
      congr 1; omega
    rw [e]
    simpa using h3
  have hlen : (xs.take i).length = i := by simp; omega
  rcases ho with ⟨a0, rfl, h0, rfl⟩ | ⟨b, c, cur, rfl, h2, h3, h4, h5, rfl⟩
  · have hi0 : i = 0 := by omega
    subst hi0
    refine kl_y (v := .slice a0 0 0) (fun r w hr _ => ?_) (h _ ⟨cs.take (0 * k), ⟨by simp, by simp, .inl ⟨a0, rfl, by simp, rfl⟩⟩, hRR⟩) hlt
    simp only [execOp, Sem.run_bind, hr _ _ hx, hr _ _ hy, Option.map_some, Option.map_none]
    cases a0 with
    | none => simp [Instr.sliceAt, run_underlying hT.u, Instr.slice, Instr.sliceBounds, Instr.sliceBound, asIntOf, go_sem, sizeOf_run hT.size]
    | some a => simp [Instr.sliceAt, run_underlying hT.u, Instr.slice, Instr.sliceBounds, Instr.sliceBound, asIntOf, go_sem, sizeOf_run hT.size, Addr.add]
  · refine kl_y (v := .slice (some ⟨b, 0, none⟩) i c) (fun r w hr _ => ?_) (h _ ⟨cs.take (i * k), ⟨by rw [hlen, List.length_take, hl]; omega, by rw [hlen]; omega, .inr ⟨b, c, cur, by rw [hlen], by omega, h3, h4, by rw [hlen, ← h5, List.take_take]; congr 1; omega, rfl⟩⟩, hRR⟩) hlt
    simp only [execOp, Sem.run_bind, hr _ _ hx, hr _ _ hy, Option.map_some, Option.map_none]
    have hic : i ≤ c := by omega
    have n1 : ¬ (c < i) := by omega
    simp [Instr.sliceAt, run_underlying hT.u, Instr.slice, Instr.sliceBounds, Instr.sliceBound, asIntOf, go_sem, sizeOf_run hT.size, Addr.add, hic, n1]
theorem kt_c (k1 k2 k3 : Nat) {fx : Nat → Bool} {LS : List Hp} {fuel : Nat} {listed : Array Bool} {o1 o2 o3 : Oper} (ho1 : ops[k1]? = some o1) (ho2 : ops[k2]? = some o2) (ho3 : ops[k3]? = some o3) (hB : (Region.ready .any ops listed == [k1, k2, k3]) = true)
    (h1 : KL C true ops (QA C ops Q fx LS k1 fuel (listed.setIfInBounds k1 true) ims) ims L [false] [o1] G)
    (h2 : KL C true ops (QA C ops Q fx LS k2 fuel (listed.setIfInBounds k2 true) ims) ims L [false] [o2] G)
    (h3 : KL C true ops (QA C ops Q fx LS k3 fuel (listed.setIfInBounds k3 true) ims) ims L [false] [o3] G) : KT C ops Q fx LS (fuel + 1) listed ims L G := fun a w hf hs hdc => by
  have hr : Region.ready .any ops listed = [k1, k2, k3] := by simpa using hB
  refine ⟨fun h' => absurd (hr ▸ h') (by simp), fun i hi => ?_⟩
  have hd2 := hdc.set hi
  rw [hr] at hi
  simp only [List.mem_cons, List.not_mem_nil, or_false] at hi
  rcases hi with rfl | rfl | rfl
  · exact wpOp_of ho1 hd2 h1 hf hs
  · exact wpOp_of ho2 hd2 h2 hf hs
  · exact wpOp_of ho3 hd2 h3 hf hs
end blds
/-! A drawn region whose ways come together at its end. -/
instance {α : Type} (l m n : List α) [h : AllIn l n] [k : AllIn m n] : AllIn (l ++ m) n := ⟨fun a ha => (List.mem_append.1 ha).elim (h.all a) (k.all a)⟩
theorem kq_normI {C : Cx} {ims imr L : List Hp} {G : Env} {p : Act → World → Prop} [hn : NormL ims imr] (h : KQ C imr L G p) : KQ C ims L G p := by have e := hn.e; subst e; exact h
/-- Small models. -/
structure ConSm (n : Nat) (c : Con) : Prop where
  v1 : 1 ≤ c.vars.length
  v : c.vars.length ≤ n
  a : c.args.length ≤ n
  r : c.rows.length ≤ n
  rr : ∀ r ∈ c.rows, r.length ≤ 12
structure ModSm (n : Nat) (m : Mod) : Prop where
  d1 : 1 ≤ m.doms.length
  d : m.doms.length ≤ 4
  c : m.cons.length ≤ n
  cc : ∀ c ∈ m.cons, ConSm n c
theorem ConSm.mono {n k : Nat} {c : Con} (h : ConSm n c) (hn : n ≤ k) : ConSm k c := ⟨h.v1, Nat.le_trans h.v hn, Nat.le_trans h.a hn, Nat.le_trans h.r hn, h.rr⟩
theorem ModSm.mono {n k : Nat} {m : Mod} (h : ModSm n m) (hn : n ≤ k) : ModSm k m := ⟨h.d1, h.d, Nat.le_trans h.c hn, fun c hc => (h.cc c hc).mono hn⟩
theorem all_nil {A : Type} {p : A → Prop} : ∀ x ∈ ([] : List A), p x := fun _ h => by cases h
end Go.Proofs.YtojinjdobjodaaaGreat
