/- The laws of memory that a call owns: slices it has made, boxes that it writes. Conditions: none. -/
import Derived.Test.YtcdemjjgmnbkfaaMor
import Derived.KernelRfl
namespace Go.Proofs.Ytcdemjjgmnbkfaa
open Go
set_option linter.unusedSimpArgs false
set_option linter.unusedVariables false

/-- v is a slice of n elements, k cells each, that H alone holds: nil, or from the head of a row on. -/
def OwnS (T k : Nat) (H : Hp) (v : Value) (n : Nat) (cs : List Value) : Prop :=
  cs.length = n * k ∧ n ≤ 140737488355328 ∧ ((∃ a, v = .slice a 0 0 ∧ n = 0 ∧ H = noHp) ∨
    ∃ b c cur, v = .slice (some ⟨b, 0, none⟩) n c ∧ n ≤ c ∧ c ≤ maxLen ∧ c * k ≤ cur.size ∧ cur.toList.take (n * k) = cs ∧ H = sing b (.cells cur T (0, 0)))
def PtrO (v p : Value) (j : Nat) : Prop := ∃ b n c, v = .slice (some ⟨b, 0, none⟩) n c ∧ p = .pointer (some ⟨b, j, none⟩)

theorem OwnS.nil {T k : Nat} : OwnS T k noHp (.slice none 0 0) 0 [] := ⟨by simp, by simp, .inl ⟨_, rfl, rfl, rfl⟩⟩
theorem OwnS.len {T k n : Nat} {H : Hp} {v : Value} {cs : List Value} (h : OwnS T k H v n cs) : n ≤ 140737488355328 := h.2.1
theorem OwnS.oneCell {T k n : Nat} {H : Hp} {v : Value} {cs : List Value} (h : OwnS T k H v n cs) : v.oneCell' = true := by
  rcases h.2.2 with ⟨_, rfl, _⟩ | ⟨b, c, cur, rfl, _⟩ <;> rfl
theorem OwnS.cells {T k n : Nat} {H : Hp} {v : Value} {cs : List Value} (h : OwnS T k H v n cs) : v.cells = [v].toArray := by
  rcases h.2.2 with ⟨_, rfl, _⟩ | ⟨b, c, cur, rfl, _⟩ <;> rfl
/-- What an owned slice reads as. -/
theorem OwnS.sl {A : Type} {T k n : Nat} {H K : Hp} {v : Value} {cs : List Value} {R : List Value → A → Prop} {xs : List A} (h : OwnS T k H v n cs) (hn : xs.length = n) (hk : ∀ b o, H b = some o → K b = some o)
    (hR : ∀ i (hi : i < xs.length), R ((cs.drop (i * k)).take k) xs[i]) : Sl K k R v xs := by
  obtain ⟨hl, hb, h⟩ := h
  rcases h with ⟨a0, rfl, rfl, rfl⟩ | ⟨b, c, cur, rfl, h1, h2, h3, h4, rfl⟩
  · exact ⟨a0, 0, by rw [hn], by omega, by omega, fun i hi => by omega⟩
  · refine ⟨some ⟨b, 0, none⟩, c, by rw [hn], by omega, by omega, fun i hi => ⟨b, 0, rfl, (cs.drop (i * k)).take k, ?_, hR i hi, b, 0 + i * k, cur, T, (0, 0), rfl, hk _ _ (by simp), fun j u hj => ?_⟩⟩
    · have : (i + 1) * k ≤ n * k := Nat.mul_le_mul_right _ (by omega)
      rw [Nat.add_mul] at this
      simp [hl]; omega
    · rw [List.getElem?_take] at hj
      split at hj
      · rw [List.getElem?_drop, ← h4, List.getElem?_take] at hj
        split at hj
        · simpa using hj
        · cases hj
      · cases hj
theorem OwnS.ints {T n : Nat} {H : Hp} {v : Value} {xs : List Int} (h : OwnS T 1 H v n (xs.map (Value.int .i64))) : Ints H v xs := by
  have hl : xs.length = n := by simpa using h.1
  refine h.sl hl (fun _ _ h => h) (fun i hi => ?_)
  simp only [Nat.mul_one, IntC]
  rw [List.drop_eq_getElem_cons (by simpa using hi)]
  simp
theorem OwnS.bools {T n : Nat} {H : Hp} {v : Value} {xs : List Bool} (h : OwnS T 1 H v n (xs.map Value.bool)) : Bools H v xs := by
  have hl : xs.length = n := by simpa using h.1
  refine h.sl hl (fun _ _ h => h) (fun i hi => ?_)
  simp only [Nat.mul_one, BoolC]
  rw [List.drop_eq_getElem_cons (by simpa using hi)]
  simp

class UpdF (H : Hp) (L : List Hp) (F : outParam (Hp → List Hp)) : Prop where u : ∀ H', UpdR H H' L (F H')
instance (H : Hp) (L : List Hp) : UpdF H (H :: L) (fun H' => H' :: L) := ⟨fun _ => .head L⟩
instance (priority := low) (H K : Hp) (L : List Hp) (F : Hp → List Hp) [h : UpdF H L F] : UpdF H (K :: L) (fun H' => K :: F H') := ⟨fun H' => .tail K (h.u H')⟩
/-- The box b in L, its cells; F: L with other cells in it. -/
class BoxF (b : Nat) (cs : outParam (List Value)) (T : outParam Nat) (L : List Hp) (F : outParam (List Value → List Hp)) : Prop where
  u : ∀ cs', UpdR (sing b (.cells cs.toArray T (0, 0))) (sing b (.cells (List.toArray cs') T (0, 0))) L (F cs')
instance (b : Nat) (cs : List Value) (T : Nat) (L : List Hp) : BoxF b cs T (sing b (.cells cs.toArray T (0, 0)) :: L) (fun cs' => sing b (.cells (List.toArray cs') T (0, 0)) :: L) := ⟨fun _ => .head L⟩
instance (priority := low) (b : Nat) (cs : List Value) (T : Nat) (K : Hp) (L : List Hp) (F : List Value → List Hp) [h : BoxF b cs T L F] : BoxF b cs T (K :: L) (fun cs' => K :: F cs') := ⟨fun cs' => .tail K (h.u cs')⟩
inductive RemR (H : Hp) : List Hp → List Hp → Prop
  | head (L : List Hp) : RemR H (H :: L) L
  | tail (K : Hp) {L L' : List Hp} (h : RemR H L L') : RemR H (K :: L) (K :: L')
/-- L without H. -/
class RemH (H : Hp) (L : List Hp) (L' : outParam (List Hp)) : Prop where r : RemR H L L'
instance (H : Hp) (L : List Hp) : RemH H (H :: L) L := ⟨.head L⟩
instance (priority := low) (H K : Hp) (L L' : List Hp) [h : RemH H L L'] : RemH H (K :: L) (K :: L') := ⟨.tail K h.r⟩
theorem RemR.facts {H : Hp} {L L' : List Hp} (r : RemR H L L') : H ∈ L ∧ (∀ K ∈ L', K ∈ L) ∧ (L.Pairwise Apart → L'.Pairwise Apart ∧ ∀ K ∈ L', Apart K H) := by
  induction r with
  | head L => exact ⟨.head _, fun K h => .tail _ h, fun hp => ⟨(List.pairwise_cons.1 hp).2, fun K hK b => ((List.pairwise_cons.1 hp).1 K hK b).symm⟩⟩
  | tail K r ih =>
    obtain ⟨h1, h2, h3⟩ := ih
    refine ⟨.tail _ h1, fun J hJ => ?_, fun hp => ?_⟩
    · cases hJ with
      | head => exact .head _
      | tail _ hJ => exact .tail _ (h2 J hJ)
    · obtain ⟨h4, h5⟩ := h3 (List.pairwise_cons.1 hp).2
      refine ⟨List.pairwise_cons.2 ⟨fun J hJ => (List.pairwise_cons.1 hp).1 J (h2 J hJ), h4⟩, fun J hJ => ?_⟩
      cases hJ with
      | head => exact (List.pairwise_cons.1 hp).1 H h1
      | tail _ hJ => exact h5 J hJ
theorem St.rem {B : World} {X : Side} {ims L L' : List Hp} {H : Hp} {w : World} (h : St B X ims L w) [r : RemH H L L'] : St B X (H :: ims) L' w := by
  obtain ⟨h1, h2, h3⟩ := r.r.facts
  obtain ⟨h4, h5⟩ := h3 h.nd
  refine h.still (fun b hb => ?_) (fun K hK => ?_) (fun K hK => ⟨(h.own K (h2 K hK)).1, (h.own K (h2 K hK)).2.1, fun I hI => ?_⟩) h4
  · rcases hb with ⟨K, hK, hb⟩ | ⟨hB, K, hK, hb⟩
    · exact .inl ⟨K, h2 K hK, hb⟩
    · cases hK with
      | head => exact .inl ⟨H, h1, hb⟩
      | tail _ hK => exact .inr ⟨hB, K, hK, hb⟩
  · cases hK with
    | head => exact (h.own H h1).1
    | tail _ hK => exact h.im K hK
  · cases hI with
    | head => exact h5 K hK
    | tail _ hI => exact (h.own K (h2 K hK)).2.2 I hI

section codes
variable {C : Cx} {Q : Post} {ims L L' : List Hp} {G : Env}
theorem kc_frz (H : Hp) {c : Code} [r : RemH H L L'] (h : KC C Q (H :: ims) L' c G) : KC C Q ims L c G := fun a w hf hs => h a w hf hs.rem
theorem kc_no {c : Code} (h : KC C Q ims (noHp :: L) c G) : KC C Q ims L c G := fun a w hf hs =>
  h a w hf (hs.push (Ext.refl _ _) (agree_no w) (fun _ hb => absurd rfl hb))
end codes

section ops
variable {C : Cx} {dr : Bool} {ops : Array Oper} {Q : Post} {ims L : List Hp} {G : Env} {fl : List Bool} {rest : List Oper}
  {d ty : Nat} {pos : String} {af : Array Edge}

theorem kl_no (h : KL C false ops Q ims (noHp :: L) fl rest G) : KL C false ops Q ims L fl rest G := by
  intro a w hf hs
  have h1 := h a w hf (hs.push (Ext.refl _ _) (agree_no w) (fun b hb => absurd rfl hb))
  refine wpSeq_false ?_ _ _ _ _ h1
  intro u hu
  unfold Cx.W at *
  cases e : C.lo <;> rw [e] at hu
  · exact St.push (L := L) hu (Ext.refl _ _) (agree_no u) (fun b hb => absurd rfl hb)
  · exact hu

/-! Making. -/
theorem madeCells_one (z : Value) (n : Nat) (hz : z.cells = #[z]) : (madeCells z.cells n).toList = List.replicate n z := by
  rw [hz]
  apply List.ext_getElem
  · simp [madeCells]
  · intro i h1 h2
    simp [madeCells, Nat.mod_one]
theorem make_run {P : Program} {T E k by' : Nat} {z : Value} (hT : IsSlice P T E k by' z) {n c : Int} (h0 : 0 ≤ n) (h1 : n ≤ c) (h2 : (by' : Int) * c ≤ 281474976710656) (h3 : c ≤ 9223372036854775807) (w : World) :
    (Instr.makeSlice T (.int .i64 n) (.int .i64 c)).run P w = .ok (.slice (some ⟨w.heap.size, 0, none⟩) n.toNat c.toNat) (w.alloc (.cells (madeCells z.cells (c.toNat * k)) E)) := by
  obtain ⟨i, hi, hz, hk, hb⟩ := hT.info
  have := run_make (P := P) w T E i z hT.u hi hz .i64 .i64 n c h0 h1 (by rw [hb]; exact h2) h3
  rw [hk] at this
  exact this
theorem kl_make {x y : Operand} {T E k by' : Nat} {z : Value} [hT : IsSlice C.P T E k by' z] {n c : Int} (hx : ev G x = some (.int .i64 n)) (hy : ev G y = some (.int .i64 c)) (h0 : 0 ≤ n) (h1 : n ≤ c) (h2 : c ≤ 1073741824) (hb : by' ≤ 1024)
    (h : ∀ v H, Fr C.B H → OwnS E k H v n.toNat ((madeCells z.cells (c.toNat * k)).toList.take (n.toNat * k)) → KL C dr ops Q ims (H :: L) fl.tail rest ((d, v) :: G)) (hlt : Nat.blt d C.n = true := by rfl) (hfl : fl.headD false = false := by rfl) :
    KL C dr ops Q ims L fl (⟨some d, .makeSlice T x y, ty, pos, af, none⟩ :: rest) G :=
  kl_new (v := fun b => .slice (some ⟨b, 0, none⟩) n.toNat c.toNat) (o := .cells (madeCells z.cells (c.toNat * k)) E) (fun r w hr => by
    have h3 : (by' : Int) * c ≤ 281474976710656 := by
      have : (by' : Int) * c ≤ 1024 * 1073741824 := Int.mul_le_mul (by omega) h2 (by omega) (by omega)
      omega
    have := make_run hT h0 h1 h3 (by omega) w
    simp only [execOp, Sem.run_bind, hr _ _ hx, hr _ _ hy, this, Result.andThen_ok, Sem.run_pure]) (fun b hb' => by
    have hcn : c.toNat ≤ 1073741824 := by omega
    refine h _ _ (fr_sing hb') ⟨?_, by omega, .inr ⟨b, c.toNat, _, rfl, by omega, by simp only [maxLen]; omega, Nat.le_of_eq (size_madeCells _ _).symm, rfl, rfl⟩⟩
    have : n.toNat * k ≤ c.toNat * k := Nat.mul_le_mul_right _ (by omega)
    rw [List.length_take]
    simp only [Array.length_toList, size_madeCells]
    exact Nat.min_eq_left this) hlt hfl
/-- make([]T, n), one cell an element. -/
theorem kl_mk1 {x y : Operand} {T E by' : Nat} {z : Value} [hT : IsSlice C.P T E 1 by' z] {n : Nat} (hx : ev G x = some (.int .i64 (n : Int))) (hy : ev G y = some (.int .i64 (n : Int))) (h2 : n ≤ 1073741824) (hz : z.cells = #[z]) (hb : by' ≤ 1024)
    (h : ∀ v H, Fr C.B H → OwnS E 1 H v n (List.replicate n z) → KL C dr ops Q ims (H :: L) fl.tail rest ((d, v) :: G)) (hlt : Nat.blt d C.n = true := by rfl) (hfl : fl.headD false = false := by rfl) :
    KL C dr ops Q ims L fl (⟨some d, .makeSlice T x y, ty, pos, af, none⟩ :: rest) G :=
  kl_make hx hy (by omega) (Int.le_refl _) (by omega) hb (fun v H f ho => h v H f (by
    rw [madeCells_one _ _ hz] at ho
    simpa using ho)) hlt hfl
/-- make([]T, 0, c). -/
theorem kl_mk0 {x y : Operand} {T E k by' : Nat} {z : Value} [hT : IsSlice C.P T E k by' z] {c : Int} (hx : ev G x = some (.int .i64 0)) (hy : ev G y = some (.int .i64 c)) (h1 : 0 ≤ c) (h2 : c ≤ 1073741824) (hb : by' ≤ 1024)
    (h : ∀ v H, Fr C.B H → OwnS E k H v 0 [] → KL C dr ops Q ims (H :: L) fl.tail rest ((d, v) :: G)) (hlt : Nat.blt d C.n = true := by rfl) (hfl : fl.headD false = false := by rfl) :
    KL C dr ops Q ims L fl (⟨some d, .makeSlice T x y, ty, pos, af, none⟩ :: rest) G :=
  kl_make hx hy (Int.le_refl _) h1 h2 hb (fun v H f ho => h v H f (by simpa using ho)) hlt hfl

/-! Reading and writing what is owned. -/
theorem kl_lenO {E k n : Nat} {H : Hp} {v : Value} {cs : List Value} {x : Operand} {T E' k' by' : Nat} {z : Value} [hT : IsSlice C.P T E' k' by' z]
    (hx : ev G x = some v) (hv : OwnS E k H v n cs) (h : n ≤ 140737488355328 → KL C dr ops Q ims L fl.tail rest ((d, .int .i64 n) :: G)) (hlt : Nat.blt d C.n = true := by rfl) :
    KL C dr ops Q ims L fl (⟨some d, .call ⟨.builtin .len, #[x], #[T]⟩, ty, pos, af, none⟩ :: rest) G :=
  kl_y (fun r w hr _ => by
    rcases hv.2.2 with ⟨a0, rfl, rfl, _⟩ | ⟨b, c, cur, rfl, _⟩ <;> simp [go_sem, hr _ _ hx, Builtin.len_, run_underlying hT.u, goInt]) (h hv.len) hlt
theorem kl_ixO {E k n : Nat} {H : Hp} {v : Value} {cs : List Value} {x y : Operand} {i : Int} {T E' by' : Nat} {z : Value} [hT : IsSlice C.P T E' k by' z]
    (hx : ev G x = some v) (hy : ev G y = some (.int .i64 i)) (hv : OwnS E k H v n cs) (h0 : 0 ≤ i) (h1 : i < n)
    (h : ∀ p, PtrO v p (i.toNat * k) → KL C dr ops Q ims L fl.tail rest ((d, p) :: G)) (hlt : Nat.blt d C.n = true := by rfl) :
    KL C dr ops Q ims L fl (⟨some d, .indexAddr T x y, ty, pos, af, none⟩ :: rest) G := by
  rcases hv.2.2 with ⟨a0, rfl, rfl, _⟩ | ⟨b, c, cur, rfl, _⟩
  · omega
  · refine kl_y (v := .pointer (some ⟨b, i.toNat * k, none⟩)) (fun r w hr _ => ?_) (h _ ⟨b, n, c, rfl, rfl⟩) hlt
    simp [go_sem, hr _ _ hx, hr _ _ hy, Instr.indexAt, run_underlying hT.u, sizeOf_run hT.size, Addr.add_lit, h0, h1]
theorem OwnS.cell {E k n j : Nat} {H : Hp} {v p u : Value} {cs : List Value} (hv : OwnS E k H v n cs) (hp : PtrO v p j) (hc : cs[j]? = some u) :
    ∃ b cur, p = .pointer (some ⟨b, j, none⟩) ∧ H = sing b (.cells cur E (0, 0)) ∧ cur[j]? = some u := by
  obtain ⟨b, n', c', rfl, rfl⟩ := hp
  rcases hv.2.2 with ⟨_, _, hn, _⟩ | ⟨b', c, cur, h, h1, h2, h3, h4, rfl⟩
  · have h5 := (List.getElem?_eq_some_iff.1 hc).1
    have h6 := hv.1
    rw [hn, Nat.zero_mul] at h6
    omega
  · simp at h
    obtain ⟨rfl, rfl, rfl⟩ := h
    refine ⟨b, cur, rfl, rfl, ?_⟩
    rw [← h4, List.getElem?_take] at hc
    split at hc
    · simpa using hc
    · cases hc
theorem kl_ldO {E k n j : Nat} {H : Hp} {v p u : Value} {cs : List Value} {x : Operand} {T : Nat} [hT : OneC C.P T] (hx : ev G x = some p) (hp : PtrO v p j) (hv : OwnS E k H v n cs) [hi : In H L] (hc : cs[j]? = some u)
    (h : KL C dr ops Q ims L fl.tail rest ((d, u) :: G)) (hlt : Nat.blt d C.n = true := by rfl) (hlo : C.lo = false := by rfl) : KL C dr ops Q ims L fl (⟨some d, .load T x, ty, pos, af, none⟩ :: rest) G :=
  kl_y (fun r w hr hs => by
    rw [Cx.whi hlo] at hs
    obtain ⟨b, cur, rfl, rfl, hcur⟩ := hv.cell hp hc
    have hA := hs.agL (H := sing b (.cells cur E (0, 0))) b _ (sing_self _ _)
    have hcell : w.cell? ⟨b, j, none⟩ = some u := by simp [World.cell?, hA, hcur]
    simp [go_sem, hr _ _ hx, Instr.loadAt, loadVar, OneC.run, hcell]) h hlt

/-- A store of some cells into a block that is owned. -/
theorem store_run {P : Program} {T : Nat} {u : Value} {us : List Value} (hu : u.cells = us.toArray) (hs : (P.info? T).map (·.size) = some us.length) (h1 : ∀ x ∈ us, x.oneCell' = true)
    {w : World} {b j E : Nat} {cur : List Value} (hb : w.heap[b]? = some (.cells cur.toArray E (0, 0))) (hj : j + us.length ≤ cur.length) :
    (Instr.storeAt T (.pointer (some ⟨b, j, none⟩)) u).run P w = .ok () (w.setRow b (cur.take j ++ us ++ cur.drop (j + us.length)).toArray) := by
  have := run_storeCells_at P b j E us 0 cur.toArray w hb (by simpa using hj) h1
  simp only [Nat.add_zero] at this
  simp only [Instr.storeAt, Instr.sureAddr, storeVar, Sem.run_bind, Sem.run_pure, Result.andThen_ok, sizeOf_run hs, hu]
  simp only [List.size_toArray, ne_eq, not_true_eq_false, if_false]
  simpa using this
theorem setRow_get (w : World) (b : Nat) (cur : List Value) (E : Nat) (cs : Array Value) (hb : w.heap[b]? = some (.cells cur.toArray E (0, 0))) : (w.setRow b cs).heap[b]? = some (.cells cs E (0, 0)) :=
  setRow_heap w b cur.toArray cs E _ hb

theorem kl_st {x y : Operand} {T b j E : Nat} {u : Value} {us cur : List Value} {L' : List Hp}
    (hx : ev G x = some (.pointer (some ⟨b, j, none⟩))) (hy : ev G y = some u) (hu : u.cells = us.toArray) (hs : (C.P.info? T).map (·.size) = some us.length) (h1 : ∀ x ∈ us, x.oneCell' = true)
    (hup : UpdR (sing b (.cells cur.toArray E (0, 0))) (sing b (.cells (cur.take j ++ us ++ cur.drop (j + us.length)).toArray E (0, 0))) L L') (hj : j + us.length ≤ cur.length)
    (h : KL C dr ops Q ims L' fl.tail rest G) (hfl : fl.headD false = false) (hdr : (!dr || rest.isEmpty) = true) :
    KL C dr ops Q ims L fl (⟨none, .store T x y, ty, pos, af, none⟩ :: rest) G :=
  kl_act rfl hfl fun a w hf hs' => by
    have hown := hs'.own _ hup.mem
    have hb := hown.1 b _ (sing_self _ _)
    have hrun : (execOp a.eval ⟨none, .store T x y, ty, pos, af, none⟩).run C.P w = .ok .skip (w.setRow b (cur.take j ++ us ++ cur.drop (j + us.length)).toArray) := by
      simp only [execOp, Sem.run_bind, hf.ev hx, hf.ev hy, store_run hu hs h1 hb hj, Result.andThen_ok, Sem.run_pure]
    unfold Oper.wp
    rw [hrun]
    refine ⟨ims, L', G, ?_, hf.putNone, ?_, h⟩
    · cases dr with
      | true => left; simpa using hdr
      | false => right; intro e; cases e
    · refine hs'.upd (u := ⟨hup⟩) (by simp) (fun b' _ hn => ?_) (fun b' o' hb' => ?_) (fun b' hb' => .inl ?_) ⟨rfl, rfl⟩
      · have hne : b' ≠ b := fun e => by subst e; simp at hn
        exact setRow_other w b b' _ hne
      · obtain ⟨rfl, rfl⟩ := sing_some hb'
        exact setRow_get w _ cur E _ hb
      · by_cases e : b' = b
        · subst e; simp
        · simp [sing, e] at hb'

/-- A store of one cell into a slice that is owned. -/
theorem kl_stO {x y : Operand} {T j E k n : Nat} {H : Hp} {v p u : Value} {cs : List Value} {F : Hp → List Hp} [hT : OneC C.P T] [hF : UpdF H L F]
    (hx : ev G x = some p) (hy : ev G y = some u) (hp : PtrO v p j) (hv : OwnS E k H v n cs) (hj : j < cs.length) (h1 : u.oneCell' = true) (hu : u.cells = [u].toArray)
    (h : ∀ H', OwnS E k H' v n (cs.set j u) → (∀ B, Fr B H → Fr B H') → KL C dr ops Q ims (F H') fl.tail rest G) (hfl : fl.headD false = false := by rfl) (hdr : (!dr || rest.isEmpty) = true := by rfl) :
    KL C dr ops Q ims L fl (⟨none, .store T x y, ty, pos, af, none⟩ :: rest) G := by
  obtain ⟨b, n', c', rfl, rfl⟩ := hp
  rcases hv.2.2 with ⟨_, _, hn, _⟩ | ⟨b', c, cur, h0, h2, h3, h4, h5, rfl⟩
  · have h6 := hv.1
    rw [hn, Nat.zero_mul] at h6
    omega
  · simp at h0
    obtain ⟨rfl, rfl, rfl⟩ := h0
    have hlen : n' * k ≤ cur.size := Nat.le_trans (Nat.mul_le_mul_right _ h2) h4
    have hjc : j < cur.size := Nat.lt_of_lt_of_le hj (by rw [hv.1]; exact hlen)
    have hcur : cur = cur.toList.toArray := by simp
    have hset : (cur.toList.take j ++ [u] ++ cur.toList.drop (j + [u].length)) = cur.toList.set j u := by
      rw [List.set_eq_take_append_cons_drop, if_pos (by simpa using hjc)]
      simp
    refine kl_st (E := E) (us := [u]) (cur := cur.toList) (L' := F (sing b (.cells (cur.toList.set j u).toArray E (0, 0)))) hx hy hu (by simpa using hT.i) (by simpa using h1) ?_ (by simp; omega) (h _ ⟨by simp [hv.1], hv.2.1, .inr ⟨b, c', _, rfl, h2, h3, by simp [h4], ?_, rfl⟩⟩ ?_) hfl hdr
    · rw [hset, ← hcur]; exact hF.u _
    · simp only []
      rw [List.take_set, h5]
    · intro B hB
      refine ⟨fun b' hb' => ?_, liq_sing⟩
      refine hB.1 b' ?_
      by_cases e : b' = b
      · subst e; simp
      · simp [sing, e] at hb'
/-- A store of one cell into a box. -/
theorem kl_stB {x y : Operand} {T b j E : Nat} {u : Value} {cs : List Value} {F : List Value → List Hp} [hT : OneC C.P T] [hF : BoxF b cs E L F]
    (hx : ev G x = some (.pointer (some ⟨b, j, none⟩))) (hy : ev G y = some u) (hj : Nat.blt j cs.length = true) (h1 : u.oneCell' = true) (hu : u.cells = [u].toArray)
    (h : KL C dr ops Q ims (F (cs.set j u)) fl.tail rest G) (hfl : fl.headD false = false := by rfl) (hdr : (!dr || rest.isEmpty) = true := by rfl) :
    KL C dr ops Q ims L fl (⟨none, .store T x y, ty, pos, af, none⟩ :: rest) G := by
  have hj : j < cs.length := by simpa [Nat.blt_eq] using hj
  have hset : (cs.take j ++ [u] ++ cs.drop (j + [u].length)) = cs.set j u := by
    rw [List.set_eq_take_append_cons_drop, if_pos hj]
    simp
  exact kl_st (us := [u]) (cur := cs) hx hy hu (by simpa using hT.i) (by simpa using h1) (by rw [hset]; exact hF.u _) (by simp; omega) h hfl hdr
/-- A store of a whole box. -/
theorem kl_stW {x y : Operand} {T b E k : Nat} {u : Value} {cs us : List Value} {F : List Value → List Hp} [hT : AggC C.P T k] [hF : BoxF b cs E L F]
    (hx : ev G x = some (.pointer (some ⟨b, 0, none⟩))) (hy : ev G y = some u) (hk : Nat.beq us.length k = true) (hl : Nat.beq cs.length k = true) (h1 : ∀ x ∈ us, x.oneCell' = true) (hu : u.cells = us.toArray)
    (h : KL C dr ops Q ims (F us) fl.tail rest G) (hfl : fl.headD false = false := by rfl) (hdr : (!dr || rest.isEmpty) = true := by rfl) :
    KL C dr ops Q ims L fl (⟨none, .store T x y, ty, pos, af, none⟩ :: rest) G := by
  have hk := Nat.eq_of_beq_eq_true hk
  have hl := Nat.eq_of_beq_eq_true hl
  exact kl_st (us := us) (cur := cs) hx hy hu (by rw [hk]; exact hT.i) h1 (by
    have : cs.take 0 ++ us ++ cs.drop (0 + us.length) = us := by simp [hk, ← hl]
    rw [this]; exact hF.u _) (by omega) h hfl hdr
/-- A store of some cells into a box. -/
theorem kl_stP {x y : Operand} {T b j E k : Nat} {u : Value} {cs us : List Value} {F : List Value → List Hp} [hT : AggC C.P T k] [hF : BoxF b cs E L F]
    (hx : ev G x = some (.pointer (some ⟨b, j, none⟩))) (hy : ev G y = some u) (hk : Nat.beq us.length k = true) (hl : Nat.ble (j + us.length) cs.length = true) (h1 : ∀ x ∈ us, x.oneCell' = true) (hu : u.cells = us.toArray)
    (h : KL C dr ops Q ims (F (cs.take j ++ us ++ cs.drop (j + us.length))) fl.tail rest G) (hfl : fl.headD false = false := by rfl) (hdr : (!dr || rest.isEmpty) = true := by rfl) :
    KL C dr ops Q ims L fl (⟨none, .store T x y, ty, pos, af, none⟩ :: rest) G := by
  have hk := Nat.eq_of_beq_eq_true hk
  exact kl_st (us := us) (cur := cs) hx hy hu (by rw [hk]; exact hT.i) h1 (hF.u _) (Nat.le_of_ble_eq_true hl) h hfl hdr
/-- A store of an element of some cells into a slice that is owned. -/
theorem kl_stE {x y : Operand} {T j E k n : Nat} {H : Hp} {v p u : Value} {cs us : List Value} {F : Hp → List Hp} [hT : AggC C.P T k] [hF : UpdF H L F]
    (hx : ev G x = some p) (hy : ev G y = some u) (hp : PtrO v p j) (hv : OwnS E k H v n cs) (hj : j + k ≤ cs.length) (hk : Nat.beq us.length k = true) (h1 : ∀ x ∈ us, x.oneCell' = true) (hu : u.cells = us.toArray)
    (h : ∀ H', OwnS E k H' v n (cs.take j ++ us ++ cs.drop (j + k)) → (∀ B, Fr B H → Fr B H') → KL C dr ops Q ims (F H') fl.tail rest G) (hfl : fl.headD false = false := by rfl) (hdr : (!dr || rest.isEmpty) = true := by rfl) :
    KL C dr ops Q ims L fl (⟨none, .store T x y, ty, pos, af, none⟩ :: rest) G := by
  have hk := Nat.eq_of_beq_eq_true hk
  obtain ⟨b, n', c', rfl, rfl⟩ := hp
  rcases hv.2.2 with ⟨_, _, hn, _⟩ | ⟨b', c, cur, h0, h2, h3, h4, h5, rfl⟩
  · have h6 := hv.1
    have h7 : 0 < k := hT.pos
    rw [hn, Nat.zero_mul] at h6
    omega
  · simp at h0
    obtain ⟨rfl, rfl, rfl⟩ := h0
    have hlen : n' * k ≤ cur.size := Nat.le_trans (Nat.mul_le_mul_right _ h2) h4
    have hcs := hv.1
    have hjc : j + k ≤ cur.size := by omega
    have hcur : cur = cur.toList.toArray := by simp
    refine kl_st (E := E) (us := us) (cur := cur.toList) (L' := F (sing b (.cells (cur.toList.take j ++ us ++ cur.toList.drop (j + us.length)).toArray E (0, 0)))) hx hy hu (by rw [hk]; exact hT.i) h1 ?_ (by rw [hk]; simpa using hjc)
      (h _ ⟨by simp [hcs, hk]; omega, hv.2.1, .inr ⟨b, c', _, rfl, h2, h3, by simp [h4, hk]; omega, ?_, rfl⟩⟩ ?_) hfl hdr
    · rw [← hcur]; exact hF.u _
    · simp only []
      subst h5
      have hsz : cur.toList.length = cur.size := by simp
      generalize cur.toList = A at *
      apply List.ext_getElem?
      intro i
      simp only [List.getElem?_take, List.getElem?_append, List.length_append, List.length_take, List.getElem?_drop, hk]
      have e1 : min j A.length = j := by omega
      have e2 : min (n' * k) A.length = n' * k := by omega
      have e3 : min j (n' * k) = j := by omega
      simp only [e1, e2, e3]
      split
      · rename_i hi
        split
        · rename_i hi2
          split
          · first | rfl | simp [hi]
          · first | rfl | omega
        · have hi5 : j + k + (i - (j + k)) = i := by omega
          rw [hi5, if_pos hi]
      · rename_i hi
        rw [if_neg (by omega), if_neg (by omega)]
    · intro B hB
      refine ⟨fun b' hb' => ?_, liq_sing⟩
      refine hB.1 b' ?_
      by_cases e : b' = b
      · subst e; simp
      · simp [sing, e] at hb'
theorem kl_ldB {x : Operand} {T b j E : Nat} {u : Value} {cs : List Value} {F : List Value → List Hp} [hT : OneC C.P T] [hF : BoxF b cs E L F] (hx : ev G x = some (.pointer (some ⟨b, j, none⟩))) (hc : cs[j]? = some u)
    (h : KL C dr ops Q ims L fl.tail rest ((d, u) :: G)) (hlt : Nat.blt d C.n = true := by rfl) (hlo : C.lo = false := by rfl) : KL C dr ops Q ims L fl (⟨some d, .load T x, ty, pos, af, none⟩ :: rest) G :=
  kl_y (fun r w hr hs => by
    rw [Cx.whi hlo] at hs
    have hA := (hs.own _ (hF.u cs).mem).1 b _ (sing_self _ _)
    have hcell : w.cell? ⟨b, j, none⟩ = some u := by simp [World.cell?, hA, hc]
    simp [go_sem, hr _ _ hx, Instr.loadAt, loadVar, OneC.run, hcell]) h hlt
theorem kl_ldW {x : Operand} {T b E k : Nat} {cs : List Value} {F : List Value → List Hp} [hT : AggC C.P T k] [hF : BoxF b cs E L F] (hx : ev G x = some (.pointer (some ⟨b, 0, none⟩))) (hk : Nat.beq cs.length k = true)
    (h : KL C dr ops Q ims L fl.tail rest ((d, .agg cs.toArray) :: G)) (hlt : Nat.blt d C.n = true := by rfl) (hlo : C.lo = false := by rfl) : KL C dr ops Q ims L fl (⟨some d, .load T x, ty, pos, af, none⟩ :: rest) G :=
  kl_y (fun r w hr hs => by
    rw [Cx.whi hlo] at hs
    have hA := (hs.own _ (hF.u cs).mem).1
    have hat : At (sing b (.cells cs.toArray E (0, 0))) (.pointer (some ⟨b, 0, none⟩)) cs := At.sing (cs := cs.toArray)
    have hc := loadCells_at (P := C.P) hA hat
    rw [Nat.eq_of_beq_eq_true hk] at hc
    have h1 : (Instr.loadAt T (.pointer (some ⟨b, 0, none⟩))).run C.P w = .ok (.agg cs.toArray) w := by
      simp only [Instr.loadAt, Instr.sureAddr, loadVar, Sem.run_bind, Sem.run_pure, Result.andThen_ok, AggC.run, sizeOf_run hT.i, hc, if_true]
    simp only [execOp, Sem.run_bind, hr _ _ hx, h1, Result.andThen_ok, Sem.run_pure]) h hlt
end ops
end Go.Proofs.Ytcdemjjgmnbkfaa
