/- Compatible heaplets, results in a cell, bits of integers. Conditions: none. -/
import Derived.Test.YtojinjdobjodaaaGreatVc
import Derived.KernelRfl
namespace Go.Proofs.YtojinjdobjodaaaGreat
open Go
set_option linter.unusedSimpArgs false
set_option linter.unusedVariables false

/-- v is a slice of n elements, k cells each, that H alone holds: nil, or from the head of a row on. -/
def OwnS (T k : Nat) (H : Hp) (v : Value) (n : Nat) (cs : List Value) : Prop :=
  cs.length = n * k ∧ n ≤ 140737488355328 ∧ ((∃ a, v = .slice a 0 0 ∧ n = 0 ∧ H = noHp) ∨
    ∃ b c cur, v = .slice (some ⟨b, 0, none⟩) n c ∧ n ≤ c ∧ c ≤ maxLen ∧ c * k ≤ cur.size ∧ cur.toList.take (n * k) = cs ∧ H = sing b (.cells cur T (0, 0)))
def PtrO (v p : Value) (j : Nat) : Prop := ∃ b n c, v = .slice (some ⟨b, 0, none⟩) n c ∧ p = .pointer (some ⟨b, j, none⟩)

theorem OwnS.nil {T k : Nat} : OwnS T k noHp (.slice none 0 0) 0 [] := ⟨by simp, by simp, .inl ⟨_, rfl, rfl, rfl⟩⟩
theorem OwnS.len {T k n : Nat} {H : Hp} {v : Value} {cs : List Value} (h : OwnS T k H v n cs) : n ≤ 140737488355328 := h.2.1
theorem OwnS.oneCell {T k n : Nat} {H : Hp} {v : Value} {cs : List Value} (h : OwnS T k H v n cs) : v.oneCell' = true := by
  rcases h.2.2 with ⟨_, rfl, _⟩ | ⟨b, c, cur, rfl, _⟩ <;> rfl
theorem OwnS.cells {T k n : Nat} {H : Hp} {v : Value} {cs : List Value} (h : OwnS T k H v n cs) : v.cells = [v].toArray := by
  rcases h.2.2 with ⟨_, rfl, _⟩ | ⟨b, c, cur, rfl, _⟩ <;> rfl
/-- What an owned slice reads as. -/
theorem OwnS.sl {A : Type} {T k n : Nat} {H K : Hp} {v : Value} {cs : List Value} {R : List Value → A → Prop} {xs : List A} (h : OwnS T k H v n cs) (hn : xs.length = n) (hk : ∀ b o, H b = some o → K b = some o)
    (hR : ∀ i (hi : i < xs.length), R ((cs.drop (i * k)).take k) xs[i]) : Sl K k R v xs := by
  obtain ⟨hl, hb, h⟩ := h
  rcases h with ⟨a0, rfl, rfl, rfl⟩ | ⟨b, c, cur, rfl, h1, h2, h3, h4, rfl⟩
  · exact ⟨a0, 0, by rw [hn], by omega, by omega, fun i hi => by omega⟩
  · refine ⟨some ⟨b, 0, none⟩, c, by rw [hn], by omega, by omega, fun i hi => ⟨b, 0, rfl, (cs.drop (i * k)).take k, ?_, hR i hi, b, 0 + i * k, cur, T, (0, 0), rfl, hk _ _ (by simp), fun j u hj => ?_⟩⟩
    · have : (i + 1) * k ≤ n * k := Nat.mul_le_mul_right _ (by omega)
      rw [Nat.add_mul] at this
      simp [hl]; omega
    · rw [List.getElem?_take] at hj
      split at hj
      · rw [List.getElem?_drop, ← h4, List.getElem?_take] at hj
        split at hj
        · simpa using hj
        · cases hj
      · cases hj
theorem OwnS.ints {T n : Nat} {H : Hp} {v : Value} {xs : List Int} (h : OwnS T 1 H v n (xs.map (Value.int .i64))) : Ints H v xs := by
  have hl : xs.length = n := by simpa using h.1
  refine h.sl hl (fun _ _ h => h) (fun i hi => ?_)
  simp only [Nat.mul_one, IntC]
  rw [List.drop_eq_getElem_cons (by simpa using hi)]
  simp
theorem OwnS.bools {T n : Nat} {H : Hp} {v : Value} {xs : List Bool} (h : OwnS T 1 H v n (xs.map Value.bool)) : Bools H v xs := by
  have hl : xs.length = n := by simpa using h.1
  refine h.sl hl (fun _ _ h => h) (fun i hi => ?_)
  simp only [Nat.mul_one, BoolC]
  rw [List.drop_eq_getElem_cons (by simpa using hi)]
  simp

class UpdF (H : Hp) (L : List Hp) (F : outParam (Hp → List Hp)) : Prop where u : ∀ H', UpdR H H' L (F H')
instance (H : Hp) (L : List Hp) : UpdF H (H :: L) (fun H' => H' :: L) := ⟨fun _ => .head L⟩
instance (priority := low) (H K : Hp) (L : List Hp) (F : Hp → List Hp) [h : UpdF H L F] : UpdF H (K :: L) (fun H' => K :: F H') := ⟨fun H' => .tail K (h.u H')⟩
/-- The box b in L, its cells; F: L with other cells in it. -/
class BoxF (b : Nat) (cs : outParam (List Value)) (T : outParam Nat) (L : List Hp) (F : outParam (List Value → List Hp)) : Prop where
  u : ∀ cs', UpdR (sing b (.cells cs.toArray T (0, 0))) (sing b (.cells (List.toArray cs') T (0, 0))) L (F cs')
instance (b : Nat) (cs : List Value) (T : Nat) (L : List Hp) : BoxF b cs T (sing b (.cells cs.toArray T (0, 0)) :: L) (fun cs' => sing b (.cells (List.toArray cs') T (0, 0)) :: L) := ⟨fun _ => .head L⟩
instance (priority := low) (b : Nat) (cs : List Value) (T : Nat) (K : Hp) (L : List Hp) (F : List Value → List Hp) [h : BoxF b cs T L F] : BoxF b cs T (K :: L) (fun cs' => K :: F cs') := ⟨fun cs' => .tail K (h.u cs')⟩
inductive RemR (H : Hp) : List Hp → List Hp → Prop
  | head (L : List Hp) : RemR H (H :: L) L
  | tail (K : Hp) {L L' : List Hp} (h : RemR H L L') : RemR H (K :: L) (K :: L')
/-- L without H. -/
class RemH (H : Hp) (L : List Hp) (L' : outParam (List Hp)) : Prop where r : RemR H L L'
instance (H : Hp) (L : List Hp) : RemH H (H :: L) L := ⟨.head L⟩
instance (priority := low) (H K : Hp) (L L' : List Hp) [h : RemH H L L'] : RemH H (K :: L) (K :: L') := ⟨.tail K h.r⟩
theorem RemR.facts {H : Hp} {L L' : List Hp} (r : RemR H L L') : H ∈ L ∧ (∀ K ∈ L', K ∈ L) ∧ (L.Pairwise Apart → L'.Pairwise Apart ∧ ∀ K ∈ L', Apart K H) := by
  induction r with
  | head L => exact ⟨.head _, fun K h => .tail _ h, fun hp => ⟨(List.pairwise_cons.1 hp).2, fun K hK b => ((List.pairwise_cons.1 hp).1 K hK b).symm⟩⟩
  | tail K r ih =>
    obtain ⟨h1, h2, h3⟩ := ih
    refine ⟨.tail _ h1, fun J hJ => ?_, fun hp => ?_⟩
    · cases hJ with
      | head => exact .head _
      | tail _ hJ => exact .tail _ (h2 J hJ)
    · obtain ⟨h4, h5⟩ := h3 (List.pairwise_cons.1 hp).2
      refine ⟨List.pairwise_cons.2 ⟨fun J hJ => (List.pairwise_cons.1 hp).1 J (h2 J hJ), h4⟩, fun J hJ => ?_⟩
      cases hJ with
      | head => exact (List.pairwise_cons.1 hp).1 H h1
      | tail _ hJ => exact h5 J hJ
theorem St.rem {B : World} {X : Side} {ims L L' : List Hp} {H : Hp} {w : World} (h : St B X ims L w) [r : RemH H L L'] : St B X (H :: ims) L' w := by
  obtain ⟨h1, h2, h3⟩ := r.r.facts
  obtain ⟨h4, h5⟩ := h3 h.nd
  refine h.still (fun b hb => ?_) (fun K hK => ?_) (fun K hK => ⟨(h.own K (h2 K hK)).1, (h.own K (h2 K hK)).2.1, fun I hI => ?_⟩) h4
  · rcases hb with ⟨K, hK, hb⟩ | ⟨hB, K, hK, hb⟩
    · exact .inl ⟨K, h2 K hK, hb⟩
    · cases hK with
      | head => exact .inl ⟨H, h1, hb⟩
      | tail _ hK => exact .inr ⟨hB, K, hK, hb⟩
  · cases hK with
    | head => exact (h.own H h1).1
    | tail _ hK => exact h.im K hK
  · cases hI with
    | head => exact h5 K hK
    | tail _ hI => exact (h.own K (h2 K hK)).2.2 I hI

section codes
variable {C : Cx} {Q : Post} {ims L L' : List Hp} {G : Env}
theorem kc_no {c : Code} (h : KC C Q ims (noHp :: L) c G) : KC C Q ims L c G := fun a w hf hs =>
  h a w hf (hs.push (Ext.refl _ _) (agree_no w) (fun _ hb => absurd rfl hb))
end codes

section ops
variable {C : Cx} {dr : Bool} {ops : Array Oper} {Q : Post} {ims L : List Hp} {G : Env} {fl : List Bool} {rest : List Oper}
  {d ty : Nat} {pos : String} {af : Array Edge}

/-! Making. -/
theorem make_run {P : Program} {T E k by' : Nat} {z : Value} (hT : IsSlice P T E k by' z) {n c : Int} (h0 : 0 ≤ n) (h1 : n ≤ c) (h2 : (by' : Int) * c ≤ 281474976710656) (h3 : c ≤ 9223372036854775807) (w : World) :
    (Instr.makeSlice T (.int .i64 n) (.int .i64 c)).run P w = .ok (.slice (some ⟨w.heap.size, 0, none⟩) n.toNat c.toNat) (w.alloc (.cells (madeCells z.cells (c.toNat * k)) E)) := by
  obtain ⟨i, hi, hz, hk, hb⟩ := hT.info
  have := run_make (P := P) w T E i z hT.u hi hz .i64 .i64 n c h0 h1 (by rw [hb]; exact h2) h3
  rw [hk] at this
  exact this
theorem kl_make {x y : Operand} {T E k by' : Nat} {z : Value} [hT : IsSlice C.P T E k by' z] {n c : Int} (hx : ev G x = some (.int .i64 n)) (hy : ev G y = some (.int .i64 c)) (h0 : 0 ≤ n) (h1 : n ≤ c) (h2 : c ≤ 1073741824) (hb : by' ≤ 1024)
    (h : ∀ v H, Fr C.B H → OwnS E k H v n.toNat ((madeCells z.cells (c.toNat * k)).toList.take (n.toNat * k)) → KL C dr ops Q ims (H :: L) fl.tail rest ((d, v) :: G)) (hlt : Nat.blt d C.n = true := by rfl) (hfl : fl.headD false = false := by rfl) :
    KL C dr ops Q ims L fl (⟨some d, .makeSlice T x y, ty, pos, af, none⟩ :: rest) G :=
  kl_new (v := fun b => .slice (some ⟨b, 0, none⟩) n.toNat c.toNat) (o := .cells (madeCells z.cells (c.toNat * k)) E) (fun r w hr => by
    have h3 : (by' : Int) * c ≤ 281474976710656 := by
      have : (by' : Int) * c ≤ 1024 * 1073741824 := Int.mul_le_mul (by omega) h2 (by omega) (by omega)
      omega
    have := make_run hT h0 h1 h3 (by omega) w
    simp only [execOp, Sem.run_bind, hr _ _ hx, hr _ _ hy, this, Result.andThen_ok, Sem.run_pure]) (fun b hb' => by
    have hcn : c.toNat ≤ 1073741824 := by omega
    refine h _ _ (fr_sing hb') ⟨?_, by omega, .inr ⟨b, c.toNat, _, rfl, by omega, by simp only [maxLen]; omega, Nat.le_of_eq (size_madeCells _ _).symm, rfl, rfl⟩⟩
    have : n.toNat * k ≤ c.toNat * k := Nat.mul_le_mul_right _ (by omega)
    rw [List.length_take]
    simp only [Array.length_toList, size_madeCells]
    exact Nat.min_eq_left this) hlt hfl
/-- make([]T, 0, c). -/
theorem kl_mk0 {x y : Operand} {T E k by' : Nat} {z : Value} [hT : IsSlice C.P T E k by' z] {c : Int} (hx : ev G x = some (.int .i64 0)) (hy : ev G y = some (.int .i64 c)) (h1 : 0 ≤ c) (h2 : c ≤ 1073741824) (hb : by' ≤ 1024)
    (h : ∀ v H, Fr C.B H → OwnS E k H v 0 [] → KL C dr ops Q ims (H :: L) fl.tail rest ((d, v) :: G)) (hlt : Nat.blt d C.n = true := by rfl) (hfl : fl.headD false = false := by rfl) :
    KL C dr ops Q ims L fl (⟨some d, .makeSlice T x y, ty, pos, af, none⟩ :: rest) G :=
  kl_make hx hy (Int.le_refl _) h1 h2 hb (fun v H f ho => h v H f (by simpa using ho)) hlt hfl

/-! Reading and writing what is owned. -/
theorem kl_lenO {E k n : Nat} {H : Hp} {v : Value} {cs : List Value} {x : Operand} {T E' k' by' : Nat} {z : Value} [hT : IsSlice C.P T E' k' by' z]
    (hx : ev G x = some v) (hv : OwnS E k H v n cs) (h : n ≤ 140737488355328 → KL C dr ops Q ims L fl.tail rest ((d, .int .i64 n) :: G)) (hlt : Nat.blt d C.n = true := by rfl) :
    KL C dr ops Q ims L fl (⟨some d, .call ⟨.builtin .len, #[x], #[T]⟩, ty, pos, af, none⟩ :: rest) G :=
  kl_y (fun r w hr _ => by
    rcases hv.2.2 with ⟨a0, rfl, rfl, _⟩ | ⟨b, c, cur, rfl, _⟩ <;> simp [go_sem, hr _ _ hx, Builtin.len_, run_underlying hT.u, goInt]) (h hv.len) hlt
theorem kl_ixO {E k n : Nat} {H : Hp} {v : Value} {cs : List Value} {x y : Operand} {i : Int} {T E' by' : Nat} {z : Value} [hT : IsSlice C.P T E' k by' z]
    (hx : ev G x = some v) (hy : ev G y = some (.int .i64 i)) (hv : OwnS E k H v n cs) (h0 : 0 ≤ i) (h1 : i < n)
    (h : ∀ p, PtrO v p (i.toNat * k) → KL C dr ops Q ims L fl.tail rest ((d, p) :: G)) (hlt : Nat.blt d C.n = true := by rfl) :
    KL C dr ops Q ims L fl (⟨some d, .indexAddr T x y, ty, pos, af, none⟩ :: rest) G := by
  rcases hv.2.2 with ⟨a0, rfl, rfl, _⟩ | ⟨b, c, cur, rfl, _⟩
  · omega
  · refine kl_y (v := .pointer (some ⟨b, i.toNat * k, none⟩)) (fun r w hr _ => ?_) (h _ ⟨b, n, c, rfl, rfl⟩) hlt
    simp [go_sem, hr _ _ hx, hr _ _ hy, Instr.indexAt, run_underlying hT.u, sizeOf_run hT.size, Addr.add_lit, h0, h1]
theorem OwnS.cell {E k n j : Nat} {H : Hp} {v p u : Value} {cs : List Value} (hv : OwnS E k H v n cs) (hp : PtrO v p j) (hc : cs[j]? = some u) :
    ∃ b cur, p = .pointer (some ⟨b, j, none⟩) ∧ H = sing b (.cells cur E (0, 0)) ∧ cur[j]? = some u := by
  obtain ⟨b, n', c', rfl, rfl⟩ := hp
  rcases hv.2.2 with ⟨_, _, hn, _⟩ | ⟨b', c, cur, h, h1, h2, h3, h4, rfl⟩
  · have h5 := (List.getElem?_eq_some_iff.1 hc).1
    have h6 := hv.1
    rw [hn, Nat.zero_mul] at h6
    omega
  · simp at h
    obtain ⟨rfl, rfl, rfl⟩ := h
    refine ⟨b, cur, rfl, rfl, ?_⟩
    rw [← h4, List.getElem?_take] at hc
    split at hc
    · simpa using hc
    · cases hc
theorem kl_ldO {E k n j : Nat} {H : Hp} {v p u : Value} {cs : List Value} {x : Operand} {T : Nat} [hT : OneC C.P T] (hx : ev G x = some p) (hp : PtrO v p j) (hv : OwnS E k H v n cs) [hi : In H L] (hc : cs[j]? = some u)
    (h : KL C dr ops Q ims L fl.tail rest ((d, u) :: G)) (hlt : Nat.blt d C.n = true := by rfl) (hlo : C.lo = false := by rfl) : KL C dr ops Q ims L fl (⟨some d, .load T x, ty, pos, af, none⟩ :: rest) G :=
  kl_y (fun r w hr hs => by
    rw [Cx.whi hlo] at hs
    obtain ⟨b, cur, rfl, rfl, hcur⟩ := hv.cell hp hc
    have hA := hs.agL (H := sing b (.cells cur E (0, 0))) b _ (sing_self _ _)
    have hcell : w.cell? ⟨b, j, none⟩ = some u := by simp [World.cell?, hA, hcur]
    simp [go_sem, hr _ _ hx, Instr.loadAt, loadVar, OneC.run, hcell]) h hlt

/-- A store of some cells into a block that is owned. -/
theorem store_run {P : Program} {T : Nat} {u : Value} {us : List Value} (hu : u.cells = us.toArray) (hs : (P.info? T).map (·.size) = some us.length) (h1 : ∀ x ∈ us, x.oneCell' = true)
    {w : World} {b j E : Nat} {cur : List Value} (hb : w.heap[b]? = some (.cells cur.toArray E (0, 0))) (hj : j + us.length ≤ cur.length) :
    (Instr.storeAt T (.pointer (some ⟨b, j, none⟩)) u).run P w = .ok () (w.setRow b (cur.take j ++ us ++ cur.drop (j + us.length)).toArray) := by
  have := run_storeCells_at P b j E us 0 cur.toArray w hb (by simpa using hj) h1
  simp only [Nat.add_zero] at this
  simp only [Instr.storeAt, Instr.sureAddr, storeVar, Sem.run_bind, Sem.run_pure, Result.andThen_ok, sizeOf_run hs, hu]
  simp only [List.size_toArray, ne_eq, not_true_eq_false, if_false]
  simpa using this
theorem setRow_get (w : World) (b : Nat) (cur : List Value) (E : Nat) (cs : Array Value) (hb : w.heap[b]? = some (.cells cur.toArray E (0, 0))) : (w.setRow b cs).heap[b]? = some (.cells cs E (0, 0)) :=
  setRow_heap w b cur.toArray cs E _ hb

theorem kl_st {x y : Operand} {T b j E : Nat} {u : Value} {us cur : List Value} {L' : List Hp}
    (hx : ev G x = some (.pointer (some ⟨b, j, none⟩))) (hy : ev G y = some u) (hu : u.cells = us.toArray) (hs : (C.P.info? T).map (·.size) = some us.length) (h1 : ∀ x ∈ us, x.oneCell' = true)
    (hup : UpdR (sing b (.cells cur.toArray E (0, 0))) (sing b (.cells (cur.take j ++ us ++ cur.drop (j + us.length)).toArray E (0, 0))) L L') (hj : j + us.length ≤ cur.length)
    (h : KL C dr ops Q ims L' fl.tail rest G) (hfl : fl.headD false = false) (hdr : (!dr || rest.isEmpty) = true) :
    KL C dr ops Q ims L fl (⟨none, .store T x y, ty, pos, af, none⟩ :: rest) G :=
  kl_act rfl hfl fun a w hf hs' => by
    have hown := hs'.own _ hup.mem
    have hb := hown.1 b _ (sing_self _ _)
    have hrun : (execOp a.eval ⟨none, .store T x y, ty, pos, af, none⟩).run C.P w = .ok .skip (w.setRow b (cur.take j ++ us ++ cur.drop (j + us.length)).toArray) := by
      simp only [execOp, Sem.run_bind, hf.ev hx, hf.ev hy, store_run hu hs h1 hb hj, Result.andThen_ok, Sem.run_pure]
    unfold Oper.wp
    rw [hrun]
    refine ⟨ims, L', G, ?_, hf.putNone, ?_, h⟩
    · cases dr with
      | true => left; simpa using hdr
      | false => right; intro e; cases e
    · refine hs'.upd (u := ⟨hup⟩) (by simp) (fun b' _ hn => ?_) (fun b' o' hb' => ?_) (fun b' hb' => .inl ?_) ⟨rfl, rfl⟩
      · have hne : b' ≠ b := fun e => by subst e; simp at hn
        exact setRow_other w b b' _ hne
      · obtain ⟨rfl, rfl⟩ := sing_some hb'
        exact setRow_get w _ cur E _ hb
      · by_cases e : b' = b
        · subst e; simp
        · simp [sing, e] at hb'

/-- A store of one cell into a slice that is owned. -/
theorem kl_stO {x y : Operand} {T j E k n : Nat} {H : Hp} {v p u : Value} {cs : List Value} {F : Hp → List Hp} [hT : OneC C.P T] [hF : UpdF H L F]
    (hx : ev G x = some p) (hy : ev G y = some u) (hp : PtrO v p j) (hv : OwnS E k H v n cs) (hj : j < cs.length) (h1 : u.oneCell' = true) (hu : u.cells = [u].toArray)
    (h : ∀ H', OwnS E k H' v n (cs.set j u) → (∀ B, Fr B H → Fr B H') → KL C dr ops Q ims (F H') fl.tail rest G) (hfl : fl.headD false = false := by rfl) (hdr : (!dr || rest.isEmpty) = true := by rfl) :
    KL C dr ops Q ims L fl (⟨none, .store T x y, ty, pos, af, none⟩ :: rest) G := by
  obtain ⟨b, n', c', rfl, rfl⟩ := hp
  rcases hv.2.2 with ⟨_, _, hn, _⟩ | ⟨b', c, cur, h0, h2, h3, h4, h5, rfl⟩
  · have h6 := hv.1
    rw [hn, Nat.zero_mul] at h6
    omega
  · simp at h0
    obtain ⟨rfl, rfl, rfl⟩ := h0
    have hlen : n' * k ≤ cur.size := Nat.le_trans (Nat.mul_le_mul_right _ h2) h4
    have hjc : j < cur.size := Nat.lt_of_lt_of_le hj (by rw [hv.1]; exact hlen)
    have hcur : cur = cur.toList.toArray := by simp
    have hset : (cur.toList.take j ++ [u] ++ cur.toList.drop (j + [u].length)) = cur.toList.set j u := by
      rw [List.set_eq_take_append_cons_drop, if_pos (by simpa using hjc)]
      simp
    refine kl_st (E := E) (us := [u]) (cur := cur.toList) (L' := F (sing b (.cells (cur.toList.set j u).toArray E (0, 0)))) hx hy hu (by simpa using hT.i) (by simpa using h1) ?_ (by simp; omega) (h _ ⟨by simp [hv.1], hv.2.1, .inr ⟨b, c', _, rfl, h2, h3, by simp [h4], ?_, rfl⟩⟩ ?_) hfl hdr
    · rw [hset, ← hcur]; exact hF.u _
    · simp only []
      rw [List.take_set, h5]
    · intro B hB
      refine ⟨fun b' hb' => ?_, liq_sing⟩
      refine hB.1 b' ?_
      by_cases e : b' = b
      · subst e; simp
      · simp [sing, e] at hb'
/-- A store of one cell into a box. -/
theorem kl_stB {x y : Operand} {T b j E : Nat} {u : Value} {cs : List Value} {F : List Value → List Hp} [hT : OneC C.P T] [hF : BoxF b cs E L F]
    (hx : ev G x = some (.pointer (some ⟨b, j, none⟩))) (hy : ev G y = some u) (hj : Nat.blt j cs.length = true) (h1 : u.oneCell' = true) (hu : u.cells = [u].toArray)
    (h : KL C dr ops Q ims (F (cs.set j u)) fl.tail rest G) (hfl : fl.headD false = false := by rfl) (hdr : (!dr || rest.isEmpty) = true := by rfl) :
    KL C dr ops Q ims L fl (⟨none, .store T x y, ty, pos, af, none⟩ :: rest) G := by
  have hj : j < cs.length := by simpa [Nat.blt_eq] using hj
  have hset : (cs.take j ++ [u] ++ cs.drop (j + [u].length)) = cs.set j u := by
    rw [List.set_eq_take_append_cons_drop, if_pos hj]
    simp
  exact kl_st (us := [u]) (cur := cs) hx hy hu (by simpa using hT.i) (by simpa using h1) (by rw [hset]; exact hF.u _) (by simp; omega) h hfl hdr
/-- A store of a whole box. -/
theorem kl_stW {x y : Operand} {T b E k : Nat} {u : Value} {cs us : List Value} {F : List Value → List Hp} [hT : AggC C.P T k] [hF : BoxF b cs E L F]
    (hx : ev G x = some (.pointer (some ⟨b, 0, none⟩))) (hy : ev G y = some u) (hk : Nat.beq us.length k = true) (hl : Nat.beq cs.length k = true) (h1 : ∀ x ∈ us, x.oneCell' = true) (hu : u.cells = us.toArray)
    (h : KL C dr ops Q ims (F us) fl.tail rest G) (hfl : fl.headD false = false := by rfl) (hdr : (!dr || rest.isEmpty) = true := by rfl) :
    KL C dr ops Q ims L fl (⟨none, .store T x y, ty, pos, af, none⟩ :: rest) G := by
  have hk := Nat.eq_of_beq_eq_true hk
  have hl := Nat.eq_of_beq_eq_true hl
  exact kl_st (us := us) (cur := cs) hx hy hu (by rw [hk]; exact hT.i) h1 (by
    have : cs.take 0 ++ us ++ cs.drop (0 + us.length) = us := by simp [hk, ← hl]
    rw [this]; exact hF.u _) (by omega) h hfl hdr
/-- A store of an element of some cells into a slice that is owned. -/
theorem kl_stE {x y : Operand} {T j E k n : Nat} {H : Hp} {v p u : Value} {cs us : List Value} {F : Hp → List Hp} [hT : AggC C.P T k] [hF : UpdF H L F]
    (hx : ev G x = some p) (hy : ev G y = some u) (hp : PtrO v p j) (hv : OwnS E k H v n cs) (hj : j + k ≤ cs.length) (hk : Nat.beq us.length k = true) (h1 : ∀ x ∈ us, x.oneCell' = true) (hu : u.cells = us.toArray)
    (h : ∀ H', OwnS E k H' v n (cs.take j ++ us ++ cs.drop (j + k)) → (∀ B, Fr B H → Fr B H') → KL C dr ops Q ims (F H') fl.tail rest G) (hfl : fl.headD false = false := by rfl) (hdr : (!dr || rest.isEmpty) = true := by rfl) :
    KL C dr ops Q ims L fl (⟨none, .store T x y, ty, pos, af, none⟩ :: rest) G := by
  have hk := Nat.eq_of_beq_eq_true hk
  obtain ⟨b, n', c', rfl, rfl⟩ := hp
  rcases hv.2.2 with ⟨_, _, hn, _⟩ | ⟨b', c, cur, h0, h2, h3, h4, h5, rfl⟩
  · have h6 := hv.1
    have h7 : 0 < k := hT.pos
    rw [hn, Nat.zero_mul] at h6
    omega
  · simp at h0
    obtain ⟨rfl, rfl, rfl⟩ := h0
    have hlen : n' * k ≤ cur.size := Nat.le_trans (Nat.mul_le_mul_right _ h2) h4
    have hcs := hv.1
    have hjc : j + k ≤ cur.size := by omega
    have hcur : cur = cur.toList.toArray := by simp
    refine kl_st (E := E) (us := us) (cur := cur.toList) (L' := F (sing b (.cells (cur.toList.take j ++ us ++ cur.toList.drop (j + us.length)).toArray E (0, 0)))) hx hy hu (by rw [hk]; exact hT.i) h1 ?_ (by rw [hk]; simpa using hjc)
      (h _ ⟨by simp [hcs, hk]; omega, hv.2.1, .inr ⟨b, c', _, rfl, h2, h3, by simp [h4, hk]; omega, ?_, rfl⟩⟩ ?_) hfl hdr
    · rw [← hcur]; exact hF.u _
    · simp only []
      subst h5
      have hsz : cur.toList.length = cur.size := by simp
      generalize cur.toList = A at *
      apply List.ext_getElem?
      intro i
      simp only [List.getElem?_take, List.getElem?_append, List.length_append, List.length_take, List.getElem?_drop, hk]
      have e1 : min j A.length = j := by omega
      have e2 : min (n' * k) A.length = n' * k := by omega
      have e3 : min j (n' * k) = j := by omega
      simp only [e1, e2, e3]
      split
      · rename_i hi
        split
        · rename_i hi2
          split
          · first | rfl | simp [hi]
          · first | rfl | omega
        · have hi5 : j + k + (i - (j + k)) = i := by omega
          rw [hi5, if_pos hi]
      · rename_i hi
        rw [if_neg (by omega), if_neg (by omega)]
    · intro B hB
      refine ⟨fun b' hb' => ?_, liq_sing⟩
      refine hB.1 b' ?_
      by_cases e : b' = b
      · subst e; simp
      · simp [sing, e] at hb'
theorem kl_ldB {x : Operand} {T b j E : Nat} {u : Value} {cs : List Value} {F : List Value → List Hp} [hT : OneC C.P T] [hF : BoxF b cs E L F] (hx : ev G x = some (.pointer (some ⟨b, j, none⟩))) (hc : cs[j]? = some u)
    (h : KL C dr ops Q ims L fl.tail rest ((d, u) :: G)) (hlt : Nat.blt d C.n = true := by rfl) (hlo : C.lo = false := by rfl) : KL C dr ops Q ims L fl (⟨some d, .load T x, ty, pos, af, none⟩ :: rest) G :=
  kl_y (fun r w hr hs => by
    rw [Cx.whi hlo] at hs
    have hA := (hs.own _ (hF.u cs).mem).1 b _ (sing_self _ _)
    have hcell : w.cell? ⟨b, j, none⟩ = some u := by simp [World.cell?, hA, hc]
    simp [go_sem, hr _ _ hx, Instr.loadAt, loadVar, OneC.run, hcell]) h hlt
theorem kl_ldW {x : Operand} {T b E k : Nat} {cs : List Value} {F : List Value → List Hp} [hT : AggC C.P T k] [hF : BoxF b cs E L F] (hx : ev G x = some (.pointer (some ⟨b, 0, none⟩))) (hk : Nat.beq cs.length k = true)
    (h : KL C dr ops Q ims L fl.tail rest ((d, .agg cs.toArray) :: G)) (hlt : Nat.blt d C.n = true := by rfl) (hlo : C.lo = false := by rfl) : KL C dr ops Q ims L fl (⟨some d, .load T x, ty, pos, af, none⟩ :: rest) G :=
  kl_y (fun r w hr hs => by
    rw [Cx.whi hlo] at hs
    have hA := (hs.own _ (hF.u cs).mem).1
    have hat : At (sing b (.cells cs.toArray E (0, 0))) (.pointer (some ⟨b, 0, none⟩)) cs := At.sing (cs := cs.toArray)
    have hc := loadCells_at (P := C.P) hA hat
    rw [Nat.eq_of_beq_eq_true hk] at hc
    have h1 : (Instr.loadAt T (.pointer (some ⟨b, 0, none⟩))).run C.P w = .ok (.agg cs.toArray) w := by
      simp only [Instr.loadAt, Instr.sureAddr, loadVar, Sem.run_bind, Sem.run_pure, Result.andThen_ok, AggC.run, sizeOf_run hT.i, hc, if_true]
    simp only [execOp, Sem.run_bind, hr _ _ hx, h1, Result.andThen_ok, Sem.run_pure]) h hlt
end ops
end Go.Proofs.YtojinjdobjodaaaGreat
namespace Go.Proofs.YtojinjdobjodaaaGreat
open Go
set_option linter.unusedSimpArgs false
set_option linter.unusedVariables false

/-- x reads as m elements, k cells each, the cells news. -/
def Rd (H : Hp) (k : Nat) (x : Value) (m : Nat) (news : List Value) : Prop :=
  ∃ a c, x = .slice a m c ∧ news.length = m * k ∧ ∀ j u, news[j]? = some u → ∃ b o cs T fz, a = some ⟨b, o, none⟩ ∧ H b = some (.cells cs T fz) ∧ cs[o + j]? = some u

def evp (G : Env) : List (Nat × Operand) → Option (List (Nat × Value))
  | [] => some []
  | (i, x) :: r => match ev G x, evp G r with
    | some v, some vs => some ((i, v) :: vs)
    | _, _ => none
theorem evp_run {G : Env} {r : Operand → Value} (hr : Ev G r) : ∀ {ps : List (Nat × Operand)} {vs : List (Nat × Value)}, evp G ps = some vs → ps.map (fun p => (p.1, r p.2)) = vs
  | [], vs, h => by simp [evp] at h; simp [h]
  | (i, x) :: t, vs, h => by
    simp only [evp] at h
    split at h
    · rename_i v ws h1 h2
      simp at h; subst h
      simp [hr _ _ h1, evp_run hr h2]
    · cases h

def enumV : Nat → List Value → List (Nat × Value)
  | _, [] => []
  | i, u :: r => (i, u) :: enumV (i + 1) r
theorem fill_one : ∀ (us : List Value) (i : Nat) (cells : Array Value), (∀ u ∈ us, u.cells = #[u]) → i + us.length ≤ cells.size →
    Instr.fill (fun i => some (i * 1, 1)) cells (enumV i us) = some (cells.toList.take i ++ us ++ cells.toList.drop (i + us.length)).toArray
  | [], i, cells, _, _ => by simp [enumV, Instr.fill]
  | u :: r, i, cells, h, hl => by
    have hu := h u (.head _)
    simp only [List.length_cons] at hl
    have ih := fill_one r (i + 1) (cells.setIfInBounds i u) (fun x hx => h x (.tail _ hx)) (by simp; omega)
    have hz : (#[u] : Array Value).zipIdx = #[(u, 0)] := by simp
    simp only [enumV, Instr.fill, hu, Nat.mul_one]
    rw [if_neg (by simp; omega), hz]
    simp only [Nat.mul_one] at ih
    simp only [List.foldl_toArray', List.foldl_cons, List.foldl_nil, Nat.add_zero, List.size_toArray, List.length_cons, List.length_nil]
    rw [ih]
    simp only [Array.toList_setIfInBounds, Option.some.injEq]
    congr 1
    apply List.ext_getElem?
    intro j
    simp only [List.getElem?_append, List.getElem?_take, List.getElem?_drop, List.length_append, List.length_take, List.length_set, List.length_cons, List.getElem?_set, List.getElem?_cons]
    have hc : cells.toList.length = cells.size := by simp
    have e1 : min (i + 1) cells.toList.length = i + 1 := by omega
    have e2 : min i cells.toList.length = i := by omega
    simp only [e1, e2]
    by_cases h1 : j < i
    · rw [if_pos (by omega), if_pos (by omega), if_pos (by omega), if_neg (by omega), if_pos (by omega), if_pos h1, if_pos h1]
    · by_cases h2 : j = i
      · subst h2
        rw [if_pos (by omega), if_pos (by omega), if_pos (by omega), if_pos rfl, if_pos (by omega), if_pos (by omega), if_neg (by omega), if_pos (by omega)]
      · by_cases h3 : j < i + 1 + r.length
        · rw [if_pos (by omega), if_neg (by omega), if_pos (by omega), if_neg (by omega), if_neg (by omega)]
          first | rfl | (congr 1; omega)
        · rw [if_neg (by omega), if_neg (by omega), if_neg (by omega)]
          first | rfl | (congr 1; omega)

section ops
variable {C : Cx} {dr : Bool} {ops : Array Oper} {Q : Post} {ims L : List Hp} {G : Env} {fl : List Bool} {rest : List Oper}
  {d ty : Nat} {pos : String} {af : Array Edge}

/-- A slice that is written out, one cell an element: fixed memory. -/
theorem kl_bs {T E by' n : Nat} {z : Value} [hT : IsSlice C.P T E 1 by' z] {ps : List (Nat × Operand)} {pv : List (Nat × Value)} {us : List Value}
    (hp : evp G ps = some pv) (he : pv = enumV 0 us) (hn : Nat.beq us.length n = true) (hm : n ≤ 1000) (hu : ∀ u ∈ us, u.cells = #[u])
    (h : ∀ v H, Fr C.B H → Rd H 1 v n us → Sl H 1 (fun cs u => cs = [u]) v us → KL C dr ops Q (H :: ims) L fl.tail rest ((d, v) :: G)) (hlt : Nat.blt d C.n = true := by rfl) (hfl : fl.headD false = false := by rfl) :
    KL C dr ops Q ims L fl (⟨some d, .buildSlice T n ps.toArray, ty, pos, af, none⟩ :: rest) G := by
  have hn := Nat.eq_of_beq_eq_true hn
  subst hn he
  refine kl_newI (v := fun b => .slice (some ⟨b, 0, none⟩) us.length us.length) (o := .cells us.toArray E) (fun r w hr => ?_) (fun b hb => h _ _ (fr_sing hb) ?_ ?_) hlt hfl
  · have hps := evp_run hr hp
    have hz := hT.z
    have hzv : (zeroValue E).run C.P w = .ok z w := zeroValue_run (by obtain ⟨i, hi, hz', _⟩ := hT.info; simp [hi, hz']) w
    have key : (Instr.buildSlice T us.length (enumV 0 us).toArray).run C.P w = .ok (.slice (some ⟨w.heap.size, 0, none⟩) us.length us.length) (w.alloc (.cells us.toArray E)) := by
      by_cases h0 : us.length = 0
      · have : us = [] := List.eq_nil_of_length_eq_zero h0
        subst this
        simp [Instr.buildSlice, run_underlying hT.u, sizeOf_run hT.size, enumV, Instr.fill, newRow, Array.range]
      · have hnn : us.length * 1 ≠ 0 := by omega
        have hff := fill_one us 0 ((Array.range (us.length * 1)).map (z.cells[· % z.cells.size]!)) hu (by simp)
        simp only [List.take_zero, List.nil_append, Nat.zero_add] at hff
        have hdrop : ((Array.range (us.length * 1)).map (z.cells[· % z.cells.size]!)).toList.drop us.length = [] := by simp
        rw [hdrop, List.append_nil] at hff
        have h24 : ¬ (16777216 < us.length) := by omega
        simp only [Instr.buildSlice, Sem.run_bind, run_underlying hT.u, Result.andThen_ok, sizeOf_run hT.size]
        simp [h24, h0, hzv]
        have hff' : Instr.fill (fun i => some (i, 1)) (Array.map (fun x => z.cells[x % z.cells.size]!) (Array.range us.length)) (enumV 0 us) = some us.toArray := by simpa using hff
        first | simp [hff', newRow] | (simp at hff'; simp [hff', newRow])
    simp only [execOp, Sem.run_bind, List.map_toArray, hps, key, Result.andThen_ok, Sem.run_pure]
  · exact ⟨some ⟨b, 0, none⟩, us.length, rfl, by simp, fun j u hj => ⟨b, 0, us.toArray, E, (0, 0), rfl, by simp, by simpa using hj⟩⟩
  · refine ⟨some ⟨b, 0, none⟩, us.length, rfl, Nat.le_refl _, by omega, fun i hi => ⟨b, 0, rfl, [us[i]], rfl, rfl, b, 0 + i * 1, us.toArray, E, (0, 0), rfl, by simp, fun j u hj => ?_⟩⟩
    cases j with
    | zero => simpa [hi] using hj
    | succ j => simp at hj

/-- A slice that is written out, one cell an element: owned memory. -/
theorem kl_bsO {T E by' n : Nat} {z : Value} [hT : IsSlice C.P T E 1 by' z] {ps : List (Nat × Operand)} {pv : List (Nat × Value)} {us : List Value}
    (hp : evp G ps = some pv) (he : pv = enumV 0 us) (hn : Nat.beq us.length n = true) (hm : n ≤ 1000) (hu : ∀ u ∈ us, u.cells = #[u])
    (h : ∀ v H, Fr C.B H → OwnS E 1 H v n us → KL C dr ops Q ims (H :: L) fl.tail rest ((d, v) :: G)) (hlt : Nat.blt d C.n = true := by rfl) (hfl : fl.headD false = false := by rfl) :
    KL C dr ops Q ims L fl (⟨some d, .buildSlice T n ps.toArray, ty, pos, af, none⟩ :: rest) G := by
  have hn := Nat.eq_of_beq_eq_true hn
  subst hn he
  refine kl_new (v := fun b => .slice (some ⟨b, 0, none⟩) us.length us.length) (o := .cells us.toArray E) (fun r w hr => ?_) (fun b hb => h _ _ (fr_sing hb) ?_) hlt hfl
  · have hps := evp_run hr hp
    have hz := hT.z
    have hzv : (zeroValue E).run C.P w = .ok z w := zeroValue_run (by obtain ⟨i, hi, hz', _⟩ := hT.info; simp [hi, hz']) w
    have key : (Instr.buildSlice T us.length (enumV 0 us).toArray).run C.P w = .ok (.slice (some ⟨w.heap.size, 0, none⟩) us.length us.length) (w.alloc (.cells us.toArray E)) := by
      by_cases h0 : us.length = 0
      · have : us = [] := List.eq_nil_of_length_eq_zero h0
        subst this
        simp [Instr.buildSlice, run_underlying hT.u, sizeOf_run hT.size, enumV, Instr.fill, newRow, Array.range]
      · have hnn : us.length * 1 ≠ 0 := by omega
        have hff := fill_one us 0 ((Array.range (us.length * 1)).map (z.cells[· % z.cells.size]!)) hu (by simp)
        simp only [List.take_zero, List.nil_append, Nat.zero_add] at hff
        have hdrop : ((Array.range (us.length * 1)).map (z.cells[· % z.cells.size]!)).toList.drop us.length = [] := by simp
        rw [hdrop, List.append_nil] at hff
        have h24 : ¬ (16777216 < us.length) := by omega
        simp only [Instr.buildSlice, Sem.run_bind, run_underlying hT.u, Result.andThen_ok, sizeOf_run hT.size]
        simp [h24, h0, hzv]
        have hff' : Instr.fill (fun i => some (i, 1)) (Array.map (fun x => z.cells[x % z.cells.size]!) (Array.range us.length)) (enumV 0 us) = some us.toArray := by simpa using hff
        first | simp [hff', newRow] | (simp at hff'; simp [hff', newRow])
    simp only [execOp, Sem.run_bind, List.map_toArray, hps, key, Result.andThen_ok, Sem.run_pure]
  · exact ⟨by simp, by omega, .inr ⟨b, us.length, us.toArray, rfl, Nat.le_refl _, by simp only [maxLen]; omega, by simp, by simp, rfl⟩⟩

/-- An append to a slice that is owned. -/
theorem kl_app {x y : Operand} {T E k by' n m : Nat} {z : Value} [hT : IsSlice C.P T E k by' z] {H K : Hp} {v u : Value} {cs news : List Value} {F : Hp → List Hp} [hF : UpdF H L F] [hi : In K ims]
    (hx : ev G x = some v) (hy : ev G y = some u) (hv : OwnS E k H v n cs) (hu : Rd K k u m news) (h1 : ∀ x ∈ news, x.oneCell' = true) (hb : n + m ≤ 1073741824) (hby : by' ≤ 1024)
    (h : ∀ v' H', OwnS E k H' v' (n + m) (cs ++ news) → (∀ B : World, Fr B H → B.heap.size ≤ C.B.heap.size → Fr B H') → KL C dr ops Q ims (F H') fl.tail rest ((d, v') :: G)) (hlt : Nat.blt d C.n = true := by rfl) (hfl : fl.headD false = false := by rfl) (hdr : (!dr || rest.isEmpty || C.lo) = true := by rfl) :
    KL C dr ops Q ims L fl (⟨some d, .call ⟨.builtin .append, #[x, y], #[T, T]⟩, ty, pos, af, none⟩ :: rest) G :=
  kl_act rfl hfl fun a w hf hs => by
    obtain ⟨i, hinfo, hz, hk, hbb⟩ := hT.info
    obtain ⟨a2, c2, rfl, hl2, hc2⟩ := hu
    have hown := hs.own H (hF.u H).mem
    have hK := hs.im K hi.mem
    have hmem : ∀ H', (OwnS E k H' = OwnS E k H') := fun _ => rfl
    have hnb : (n + m) * i.bytes ≤ 140737488355328 := by
      rw [hbb]
      calc (n + m) * by' ≤ 1073741824 * 1024 := Nat.mul_le_mul hb hby
        _ ≤ 140737488355328 := by decide
    have hdr' : rest = [] ∨ (dr = true → C.lo = true) := by
      cases dr with
      | true =>
        simp only [Bool.not_true, Bool.false_or, Bool.or_eq_true, List.isEmpty_iff] at hdr
        exact hdr.imp id (fun h _ => h)
      | false => right; intro e; cases e
    -- what is done once the run is known
    have fin : ∀ (v' : Value) (w' : World) (H' : Hp), (Builtin.append_ #[T, T] ty #[v, .slice a2 m c2]).run C.P w = .ok v' w' → OwnS E k H' v' (n + m) (cs ++ news) →
        (∀ b, H' b ≠ none → H b ≠ none ∨ w.heap.size ≤ b) → w.heap.size ≤ w'.heap.size → (∀ b, b < w.heap.size → H b = none → w'.heap[b]? = w.heap[b]?) → Agree H' w' → Io w w' → (Liq H → Liq H') →
        Oper.wp C.P ⟨some d, .call ⟨.builtin .append, #[x, y], #[T, T]⟩, ty, pos, af, none⟩ a w (fun a' w' => ∃ ims2 L2 G2, (rest = [] ∨ (dr = true → ∀ u, St C.B C.X ims2 (C.W L2) u → St C.B C.X ims (C.W L) u)) ∧
          Fit C.m G2 a' ∧ St C.B C.X ims2 L2 w' ∧ KL C dr ops Q ims2 L2 fl.tail rest G2) (fun _ _ _ => False) := fun v' w' H' hrun ho hd hsz he hA hio hlq => by
      have hr : (execOp a.eval ⟨some d, .call ⟨.builtin .append, #[x, y], #[T, T]⟩, ty, pos, af, none⟩).run C.P w = .ok (.value v') w' := by
        simp only [execOp, resolve, Sem.run_bind, Sem.run_pure, Result.andThen_ok, invoke, builtin, List.map_toArray, List.map_cons, List.map_nil, hf.ev hx, hf.ev hy, hrun]
      unfold Oper.wp
      rw [hr]
      refine ⟨ims, F H', _, hdr'.imp id (fun h e u hu => hu.wlo (h e)), hf.put (by simpa [Nat.blt_eq, Cx.m] using hlt), hs.upd (u := ⟨hF.u H'⟩) hsz he hA hd hio, h v' H' ho (fun B hB hBB => ⟨fun b hb => ?_, hlq hB.2⟩)⟩
      rcases hd b hb with h' | h'
      · exact hB.1 b h'
      · exact Nat.le_trans hBB (Nat.le_trans hs.size h')
    have grown : ∀ (w0 : World) (old : Nat), w0.heap = w.heap → old < n + m → ∀ c, n + m ≤ c → c ≤ maxLen →
        OwnS E k (sing w.heap.size (.cells (cs.toArray ++ news.toArray ++ Builtin.zeroCells z.cells (c - (n + m))) E (0, 0))) (.slice (some ⟨w.heap.size, 0, none⟩) (n + m) c) (n + m) (cs ++ news) := by
      intro w0 old _ _ c hc hcm
      have hlen : (cs ++ news).length = (n + m) * k := by rw [List.length_append, hv.1, hl2, Nat.add_mul]
      refine ⟨hlen, by omega, .inr ⟨_, c, _, rfl, hc, hcm, ?_, ?_, rfl⟩⟩
      · simp only [Array.size_append, List.size_toArray, size_zeroCells, hT.z]
        have : cs.length + news.length = (n + m) * k := by rw [← hlen, List.length_append]
        rw [this, ← Nat.add_mul]
        refine Nat.le_of_eq ?_
        congr 1; omega
      · simp only [Array.toList_append, List.append_assoc]
        rw [← List.append_assoc, ← hlen]
        exact List.take_left
    by_cases hm0 : m = 0
    · subst hm0
      have hnw : news = [] := List.eq_nil_of_length_eq_zero (by simpa using hl2)
      subst hnw
      refine fin v w H ?_ (by simpa using hv) (fun b hb => .inl hb) (Nat.le_refl _) (fun _ _ _ => rfl) hown.1 (Io.refl _) (fun h => h)
      rcases hv.2.2 with ⟨a0, rfl, rfl, _⟩ | ⟨b, c, cur, rfl, h2, _⟩
      · cases a0 <;> cases a2 <;> simp [Builtin.append_, run_underlying hT.u, Go.sizeOf, typeInfo, hinfo, Builtin.lenOf, Builtin.firstCells, loadCells, loadCellsFrom, storeCells]
      · cases a2 <;> simp [Builtin.append_, run_underlying hT.u, Go.sizeOf, typeInfo, hinfo, Builtin.lenOf, Builtin.firstCells, loadCells, loadCellsFrom, storeCells, h2]
    · have hKd : ∀ w' : World, w'.heap = w.heap → ∀ b o, K b = some o → w'.heap[b]? = some o := fun w' e b o hb => by rw [e]; exact hK b o hb
      have hm : 0 < m := Nat.pos_of_ne_zero hm0
      have hlp : 0 < news.length := by rw [hl2]; exact Nat.mul_pos hm hT.p
      obtain ⟨b2, o2, _, _, _, ha2, _⟩ := hc2 0 _ (List.getElem?_eq_getElem hlp)
      subst ha2
      have hnews : ∀ (w : World), (∀ b o, K b = some o → w.heap[b]? = some o) → ∀ j u, news[j]? = some u → w.cell? ((⟨b2, o2, none⟩ : Addr).add j) = some u := fun w hw j u hj => by
        obtain ⟨b3, o3, cs', T', fz, e3, h1, h2⟩ := hc2 j u hj
        simp only [Option.some.injEq, Addr.mk.injEq, and_true] at e3
        obtain ⟨rfl, rfl⟩ := e3
        rw [Addr.add_lit]
        simp [World.cell?, hw _ _ h1, h2]
      rcases hv.2.2 with ⟨a0, rfl, rfl, rfl⟩ | ⟨b, c, cur, rfl, h2, h3, h4, h5, rfl⟩
      · have hcs : cs = [] := List.eq_nil_of_length_eq_zero (by simpa using hv.1)
        subst hcs
        have hrun : (Builtin.append_ #[T, T] ty #[.slice a0 0 0, .slice (some ⟨b2, o2, none⟩) m c2]).run C.P w =
            .ok (.slice (some ⟨w.heap.size, 0, none⟩) m (grownCap w m 0 E)) (w.drew.alloc (.cells (news.toArray ++ Builtin.zeroCells z.cells (grownCap w m 0 E - m)) E)) := by
          cases a0 with
          | none => exact run_append_nil (P := C.P) w T ty E i z hT.u hinfo hz ⟨b2, o2, none⟩ m c2 news (by rw [hk]; exact hl2) (hnews w (hKd w rfl)) hm (by omega) (by simp only [Nat.zero_add] at hnb; omega)
          | some a0 =>
            have := run_append_grow (P := C.P) w T ty E i z hT.u hinfo hz a0 0 0 [] (by simp) (by simp) ⟨b2, o2, none⟩ m c2 news (by rw [hk]; exact hl2) (hnews w (hKd w rfl)) (by omega) (by omega) (by
              simp only [Nat.zero_add] at hnb ⊢; rw [nextslicecap_zero hm]; omega)
            simpa using this
        have hge := grownCap_ge w m 0 E
        have hle := grownCap_le_maxLen w m 0 E (by simp only [maxLen]; omega)
        have hg := grown w 0 rfl (by omega) (grownCap w m 0 E) (by simpa using hge) hle
        simp only [Nat.zero_add, List.nil_append] at hg ⊢
        refine fin _ _ _ hrun (by simpa using hg) (fun b' hb' => .inr ?_) (by simp) (fun b' hb' _ => heap_alloc_old w.drew _ hb') ?_ ⟨rfl, rfl⟩ (fun _ => liq_sing)
        · by_cases e : b' = w.heap.size
          · omega
          · simp [sing, e] at hb'
        · have := agree_alloc w.drew (.cells (news.toArray ++ Builtin.zeroCells z.cells (grownCap w m 0 E - m)) E)
          simpa using this
      · by_cases hroom : n + m ≤ c
        · have hA := hown.1 b _ (sing_self _ _)
          have hrun := run_append_room (P := C.P) w T ty E i hT.u hinfo b n c cur hA ⟨b2, o2, none⟩ m c2 news (by rw [hk]; exact hl2) (hnews w (hKd w rfl)) h1 hroom (by
            rw [hk, hl2, ← Nat.add_mul]; exact Nat.le_trans (Nat.mul_le_mul_right _ hroom) h4)
          rw [hk] at hrun
          refine fin _ _ (sing b (.cells (cur.toList.take (n * k) ++ news ++ cur.toList.drop (n * k + news.length)).toArray E (0, 0))) hrun ⟨by rw [List.length_append, hv.1, hl2, Nat.add_mul], by omega, .inr ⟨b, c, _, rfl, hroom, h3, ?_, ?_, rfl⟩⟩ (fun b' hb' => .inl ?_) (by simp) (fun b' _ hn => ?_) (fun b' o' hb' => ?_) ⟨rfl, rfl⟩ (fun _ => liq_sing)
          · have : n * k + m * k ≤ cur.size := by rw [← Nat.add_mul]; exact Nat.le_trans (Nat.mul_le_mul_right _ hroom) h4
            refine Nat.le_trans h4 ?_
            simp only [List.size_toArray, List.length_append, List.length_take, List.length_drop, Array.length_toList, hl2]
            omega
          · have hlen : (cs ++ news).length = (n + m) * k := by rw [List.length_append, hv.1, hl2, Nat.add_mul]
            simp only []
            rw [h5, ← hlen]
            exact List.take_left
          · by_cases e : b' = b
            · subst e; simp
            · simp [sing, e] at hb'
          · have hne : b' ≠ b := fun e => by subst e; simp at hn
            exact setRow_other w b b' _ hne
          · obtain ⟨rfl, rfl⟩ := sing_some hb'
            exact setRow_heap w _ cur _ E _ hA
        · have hA := hown.1 b _ (sing_self _ _)
          have holds : ∀ j u, cs[j]? = some u → w.cell? ((⟨b, 0, none⟩ : Addr).add j) = some u := fun j u hj => by
            rw [Addr.add_lit]
            rw [← h5, List.getElem?_take] at hj
            split at hj
            · simp [World.cell?, hA]; simpa using hj
            · cases hj
          have hrun := run_append_grow (P := C.P) w T ty E i z hT.u hinfo hz ⟨b, 0, none⟩ n c cs (by rw [hk]; exact hv.1) holds ⟨b2, o2, none⟩ m c2 news (by rw [hk]; exact hl2) (hnews w (hKd w rfl)) (by omega) (by omega) (growslice_fits (by omega) hnb)
          have hge := grownCap_ge w (n + m) c E
          have hle := grownCap_le_maxLen w (n + m) c E (by simp only [maxLen]; omega)
          have hg := grown w c rfl (by omega) (grownCap w (n + m) c E) hge hle
          refine fin _ _ _ hrun hg (fun b' hb' => .inr ?_) (by simp) (fun b' hb' _ => heap_alloc_old w.drew _ hb') ?_ ⟨rfl, rfl⟩ (fun _ => liq_sing)
          · by_cases e : b' = w.heap.size
            · omega
            · simp [sing, e] at hb'
          · exact agree_alloc w.drew _
end ops

/-- What a slice holds, as one row of cells. -/
theorem Sl.rd {A : Type} {H : Hp} {k : Nat} {R : List Value → A → Prop} {v : Value} {xs : List A} (h : Sl H k R v xs) :
    ∃ news, Rd H k v xs.length news ∧ ∀ i (hi : i < xs.length), R ((news.drop (i * k)).take k) xs[i] := by
  obtain ⟨a, c, rfl, hc, hb, he⟩ := h
  by_cases h0 : xs.length = 0
  · exact ⟨[], ⟨a, c, rfl, by simp [h0], fun j u hj => by simp at hj⟩, fun i hi => by omega⟩
  · obtain ⟨b, o, rfl, vs0, hl0, _, hat0⟩ := he 0 (by omega)
    obtain ⟨b', o', cs, T, fz, hp, hb', _⟩ := hat0
    simp only [Value.pointer.injEq, Option.some.injEq, Addr.mk.injEq, and_true] at hp
    obtain ⟨rfl, rfl⟩ := hp
    have each : ∀ i (hi : i < xs.length), ∃ vs : List Value, vs.length = k ∧ R vs xs[i] ∧ ∀ t, t < k → vs[t]? = cs[o + (i * k + t)]? ∧ cs[o + (i * k + t)]? ≠ none := fun i hi => by
      obtain ⟨b1, o1, e1, vs, hl, hr, b2, o2, cs2, T2, fz2, hp, hb2, hcs⟩ := he i hi
      simp only [Option.some.injEq, Addr.mk.injEq, and_true] at e1
      obtain ⟨rfl, rfl⟩ := e1
      simp only [Value.pointer.injEq, Option.some.injEq, Addr.mk.injEq, and_true] at hp
      obtain ⟨rfl, rfl⟩ := hp
      rw [hb'] at hb2
      cases hb2
      refine ⟨vs, hl, hr, fun t ht => ?_⟩
      have := hcs t _ (List.getElem?_eq_getElem (by omega))
      rw [Nat.add_assoc] at this
      rw [List.getElem?_eq_getElem (by omega), this]
      exact ⟨rfl, by simp⟩
    refine ⟨(List.range (xs.length * k)).map (fun j => cs.getD (o + j) undef), ⟨some ⟨b, o, none⟩, c, rfl, by simp, fun j u hj => ⟨b, o, cs, T, fz, rfl, hb', ?_⟩⟩, fun i hi => ?_⟩
    · have hj' : j < xs.length * k := by have := (List.getElem?_eq_some_iff.1 hj).1; simpa using this
      have hk : 0 < k := Nat.pos_of_ne_zero fun e => by subst e; simp at hj'
      have hi : j / k < xs.length := (Nat.div_lt_iff_lt_mul hk).2 hj'
      obtain ⟨vs, _, _, hcs⟩ := each (j / k) hi
      have h2 := (hcs (j % k) (Nat.mod_lt _ hk)).2
      have e : j / k * k + j % k = j := by rw [Nat.mul_comm]; exact Nat.div_add_mod j k
      rw [e] at h2
      rw [List.getElem?_map, List.getElem?_range hj'] at hj
      simp only [Option.map_some, Option.some.injEq] at hj
      subst hj
      cases hg : cs[o + j]? with
      | none => exact absurd hg h2
      | some x => simp [Array.getD, (Array.getElem?_eq_some_iff.1 hg).1, (Array.getElem?_eq_some_iff.1 hg).2]
    · obtain ⟨vs, hl, hr, hcs⟩ := each i hi
      have hik : (i + 1) * k ≤ xs.length * k := Nat.mul_le_mul_right _ hi
      rw [Nat.add_mul] at hik
      have : (((List.range (xs.length * k)).map (fun j => cs.getD (o + j) undef)).drop (i * k)).take k = vs := by
        apply List.ext_getElem?
        intro t
        by_cases ht : t < k
        · rw [List.getElem?_take, if_pos ht, List.getElem?_drop, List.getElem?_map, List.getElem?_range (by omega), (hcs t ht).1]
          cases hg : cs[o + (i * k + t)]? with
          | none => exact absurd hg (hcs t ht).2
          | some x => simp [Array.getD, (Array.getElem?_eq_some_iff.1 hg).1, (Array.getElem?_eq_some_iff.1 hg).2]
        · rw [List.getElem?_eq_none (by simp; omega), List.getElem?_eq_none (by omega)]
      rw [this]; exact hr
end Go.Proofs.YtojinjdobjodaaaGreat
namespace Go.Proofs.YtojinjdobjodaaaGreat
open Go
set_option linter.unusedSimpArgs false
set_option linter.unusedVariables false

abbrev Rel (A : Type) := Hp → List Value → A → Prop
class RMono {A : Type} (R : Rel A) : Prop where
  mono : ∀ {H K : Hp} {vs : List Value} {x : A}, (∀ b o, H b = some o → K b = some o) → R H vs x → R K vs x
def IntV : Rel Int := fun _ vs n => vs = [.int .i64 n]
def BoolV : Rel Bool := fun _ vs b => vs = [.bool b]
def RowV : Rel (List Int) := fun K vs xs => ∃ u, vs = [u] ∧ Ints K u xs
def BRowV : Rel (List Bool) := fun K vs xs => ∃ u, vs = [u] ∧ Bools K u xs
instance : RMono IntV := ⟨fun _ h => h⟩
instance : RMono BoolV := ⟨fun _ h => h⟩
instance : RMono RowV := ⟨fun hk ⟨u, e, h⟩ => ⟨u, e, h.mono hk (fun _ _ h => h)⟩⟩
instance : RMono BRowV := ⟨fun hk ⟨u, e, h⟩ => ⟨u, e, h.mono hk (fun _ _ h => h)⟩⟩
theorem Rows.mono' {H K : Hp} {v : Value} {xs : List (List Int)} (h : Rows H v xs) (hk : ∀ b o, H b = some o → K b = some o) : Rows K v xs :=
  Sl.mono h hk (fun _ _ ⟨u, e, h⟩ => ⟨u, e, h.mono hk (fun _ _ h => h)⟩)
instance : RMono ConV := ⟨fun hk ⟨a, b, r, e, h1, h2, h3⟩ => ⟨a, b, r, e, h1.mono hk (fun _ _ h => h), h2.mono hk (fun _ _ h => h), h3.mono' hk⟩⟩
theorem Cons.mono' {H K : Hp} {v : Value} {xs : List Con} (h : Cons H v xs) (hk : ∀ b o, H b = some o → K b = some o) : Cons K v xs := Sl.mono h hk (fun _ _ h => RMono.mono hk h)
theorem orL {H K : Hp} : ∀ b o, H b = some o → orHp H K b = some o := fun b o h => by simp [orHp, h]
def OwnL {A : Type} (E k : Nat) (H K : Hp) (R : Rel A) (v : Value) (xs : List A) : Prop :=
  ∃ cs, OwnS E k H v xs.length cs ∧ ∀ i (h : i < xs.length), R K ((cs.drop (i * k)).take k) xs[i]
theorem OwnL.nil {A : Type} {E k : Nat} {K : Hp} {R : Rel A} : OwnL E k noHp K R (.slice none 0 0) [] := ⟨[], OwnS.nil, fun i h => absurd h (Nat.not_lt_zero i)⟩
theorem OwnL.len {A : Type} {E k : Nat} {H K : Hp} {R : Rel A} {v : Value} {xs : List A} (h : OwnL E k H K R v xs) : xs.length ≤ 140737488355328 := by
  obtain ⟨cs, h, _⟩ := h; exact h.len
theorem OwnL.cells {A : Type} {E k : Nat} {H K : Hp} {R : Rel A} {v : Value} {xs : List A} (h : OwnL E k H K R v xs) : v.cells = [v].toArray := by
  obtain ⟨cs, h, _⟩ := h; exact h.cells
theorem OwnL.oneCell {A : Type} {E k : Nat} {H K : Hp} {R : Rel A} {v : Value} {xs : List A} (h : OwnL E k H K R v xs) : v.oneCell' = true := by
  obtain ⟨cs, h, _⟩ := h; exact h.oneCell
theorem OwnL.mono {A : Type} {E k : Nat} {H K K' : Hp} {R : Rel A} [RMono R] {v : Value} {xs : List A} (h : OwnL E k H K R v xs) (hk : ∀ b o, K b = some o → K' b = some o) : OwnL E k H K' R v xs := by
  obtain ⟨cs, h1, h2⟩ := h
  exact ⟨cs, h1, fun i hi => RMono.mono hk (h2 i hi)⟩
/-- What it reads as, in any heaplet that holds both. -/
theorem OwnL.sl {A : Type} {E k : Nat} {H K M : Hp} {R : Rel A} [RMono R] {R' : List Value → A → Prop} {v : Value} {xs : List A} (h : OwnL E k H K R v xs) (h1 : ∀ b o, H b = some o → M b = some o)
    (h2 : ∀ vs x, R K vs x → R' vs x) : Sl M k R' v xs := by
  obtain ⟨cs, h3, h4⟩ := h
  exact h3.sl rfl h1 (fun i hi => h2 _ _ (h4 i hi))
theorem OwnL.ints {E : Nat} {H K : Hp} {v : Value} {xs : List Int} (h : OwnL E 1 H K IntV v xs) : Ints H v xs := h.sl (fun _ _ h => h) (fun _ _ h => h)
theorem OwnL.bools {E : Nat} {H K : Hp} {v : Value} {xs : List Bool} (h : OwnL E 1 H K BoolV v xs) : Bools H v xs := h.sl (fun _ _ h => h) (fun _ _ h => h)

section ops
variable {C : Cx} {dr : Bool} {ops : Array Oper} {Q : Post} {ims L : List Hp} {G : Env} {fl : List Bool} {rest : List Oper}
  {d ty : Nat} {pos : String} {af : Array Edge} {A : Type} {R : Rel A}

theorem madeCells_drop (z : Array Value) (k n i : Nat) (hz : z.size = k) (hi : i < n) : ((madeCells z (n * k)).toList.drop (i * k)).take k = z.toList := by
  have hik : (i + 1) * k ≤ n * k := Nat.mul_le_mul_right _ hi
  rw [Nat.add_mul] at hik
  apply List.ext_getElem
  · simp [madeCells, hz]; omega
  · intro j h1 h2
    simp only [Array.length_toList, hz] at h2
    simp only [List.getElem_take, List.getElem_drop, madeCells, Array.getElem_toList, Array.getElem_map, Array.getElem_range, hz]
    have : (i * k + j) % k = j := by rw [Nat.mul_comm, Nat.mul_add_mod, Nat.mod_eq_of_lt h2]
    rw [this]
    simp [hz, h2]
/-- make([]T, n). -/
theorem kl_mkL (x0 : A) {x y : Operand} {T E k by' : Nat} {z : Value} [hT : IsSlice C.P T E k by' z] {n : Nat} (hx : ev G x = some (.int .i64 (n : Int))) (hy : ev G y = some (.int .i64 (n : Int))) (h2 : n ≤ 1073741824) (hb : by' ≤ 1024)
    (hz : R noHp z.cells.toList x0)
    (h : ∀ v H, Fr C.B H → OwnL E k H noHp R v (List.replicate n x0) → KL C dr ops Q ims (H :: L) fl.tail rest ((d, v) :: G)) (hlt : Nat.blt d C.n = true := by rfl) (hfl : fl.headD false = false := by rfl) :
    KL C dr ops Q ims L fl (⟨some d, .makeSlice T x y, ty, pos, af, none⟩ :: rest) G :=
  kl_make hx hy (by omega) (Int.le_refl _) (by omega) hb (fun v H f ho => h v H f (by
    simp only [Int.toNat_natCast] at ho
    refine ⟨_, by simpa using ho, fun i hi => ?_⟩
    simp only [List.length_replicate] at hi
    have hfull : List.take (n * k) (madeCells z.cells (n * k)).toList = (madeCells z.cells (n * k)).toList := by
      rw [List.take_of_length_le]; simp [size_madeCells]
    rw [hfull, madeCells_drop _ _ _ _ hT.z hi, List.getElem_replicate]
    exact hz)) hlt hfl
/-- make([]T, 0, c). -/
theorem kl_mkL0 {x y : Operand} {T E k by' : Nat} {z : Value} [hT : IsSlice C.P T E k by' z] {c : Int} (hx : ev G x = some (.int .i64 0)) (hy : ev G y = some (.int .i64 c)) (h1 : 0 ≤ c) (h2 : c ≤ 1073741824) (hb : by' ≤ 1024)
    (h : ∀ v H, Fr C.B H → OwnL E k H noHp R v [] → KL C dr ops Q ims (H :: L) fl.tail rest ((d, v) :: G)) (hlt : Nat.blt d C.n = true := by rfl) (hfl : fl.headD false = false := by rfl) :
    KL C dr ops Q ims L fl (⟨some d, .makeSlice T x y, ty, pos, af, none⟩ :: rest) G :=
  kl_mk0 hx hy h1 h2 hb (fun v H f ho => h v H f ⟨[], ho, fun i hi => absurd hi (Nat.not_lt_zero i)⟩) hlt hfl

/-- p is where element i of v lies. -/
def PtrL (k : Nat) (v p : Value) (i : Nat) : Prop := PtrO v p (i * k)
theorem kl_lenL {E k : Nat} {H K : Hp} {v : Value} {xs : List A} {x : Operand} {T E' k' by' : Nat} {z : Value} [hT : IsSlice C.P T E' k' by' z]
    (hx : ev G x = some v) (hv : OwnL E k H K R v xs) (h : xs.length ≤ 140737488355328 → KL C dr ops Q ims L fl.tail rest ((d, .int .i64 xs.length) :: G)) (hlt : Nat.blt d C.n = true := by rfl) :
    KL C dr ops Q ims L fl (⟨some d, .call ⟨.builtin .len, #[x], #[T]⟩, ty, pos, af, none⟩ :: rest) G := by
  obtain ⟨cs, h1, _⟩ := hv
  exact kl_lenO hx h1 h hlt
theorem kl_ixL {E k : Nat} {H K : Hp} {v : Value} {xs : List A} {x y : Operand} {i : Int} {T E' by' : Nat} {z : Value} [hT : IsSlice C.P T E' k by' z]
    (hx : ev G x = some v) (hy : ev G y = some (.int .i64 i)) (hv : OwnL E k H K R v xs) (h0 : 0 ≤ i) (h1 : i < xs.length)
    (h : ∀ p, PtrL k v p i.toNat → KL C dr ops Q ims L fl.tail rest ((d, p) :: G)) (hlt : Nat.blt d C.n = true := by rfl) :
    KL C dr ops Q ims L fl (⟨some d, .indexAddr T x y, ty, pos, af, none⟩ :: rest) G := by
  obtain ⟨cs, h2, _⟩ := hv
  exact kl_ixO hx hy h2 h0 h1 h hlt
theorem kl_ixLn {E k : Nat} {H K : Hp} {v : Value} {xs : List A} {x y : Operand} {i : Nat} {T E' by' : Nat} {z : Value} [hT : IsSlice C.P T E' k by' z]
    (hx : ev G x = some v) (hy : ev G y = some (.int .i64 (i : Int))) (hv : OwnL E k H K R v xs) (h1 : i < xs.length)
    (h : ∀ p, PtrL k v p i → KL C dr ops Q ims L fl.tail rest ((d, p) :: G)) (hlt : Nat.blt d C.n = true := by rfl) :
    KL C dr ops Q ims L fl (⟨some d, .indexAddr T x y, ty, pos, af, none⟩ :: rest) G := kl_ixL hx hy hv (by omega) (by omega) h hlt
theorem OwnL.at1 {E : Nat} {H K : Hp} {v : Value} {xs : List A} (h : OwnL E 1 H K R v xs) {i : Nat} (hi : i < xs.length) : ∃ cs u, OwnS E 1 H v xs.length cs ∧ cs[i]? = some u ∧ R K [u] xs[i] := by
  obtain ⟨cs, h1, h2⟩ := h
  have h3 := h2 i hi
  have hl : i < cs.length := by have := h1.1; omega
  refine ⟨cs, cs[i], h1, by simp [hl], ?_⟩
  simp only [Nat.mul_one] at h3
  rw [List.drop_eq_getElem_cons hl, List.take_succ_cons, List.take_zero] at h3
  exact h3
theorem kl_ldLI {E i : Nat} {H K : Hp} {v p : Value} {xs : List Int} {x : Operand} {T : Nat} [hT : OneC C.P T] (hx : ev G x = some p) (hp : PtrL 1 v p i) (hv : OwnL E 1 H K IntV v xs) [hi : In H L] (hc : i < xs.length)
    (h : KL C dr ops Q ims L fl.tail rest ((d, .int .i64 (xs.getD i 0)) :: G)) (hlt : Nat.blt d C.n = true := by rfl) (hlo : C.lo = false := by rfl) : KL C dr ops Q ims L fl (⟨some d, .load T x, ty, pos, af, none⟩ :: rest) G := by
  obtain ⟨cs, u, h1, h2, h3⟩ := hv.at1 hc
  unfold IntV at h3
  simp at h3
  subst h3
  refine kl_ldO hx hp h1 (by simpa using h2) ?_ hlt hlo
  have : xs.getD i 0 = xs[i] := by simp [List.getD_eq_getElem?_getD, hc]
  rw [← this]; exact h
/-- A store of one cell. -/
theorem kl_stL {x y : Operand} {T i E : Nat} {H K : Hp} {v p u : Value} {xs : List A} {F : Hp → List Hp} [hT : OneC C.P T] [hF : UpdF H L F] (x1 : A)
    (hx : ev G x = some p) (hy : ev G y = some u) (hp : PtrL 1 v p i) (hv : OwnL E 1 H K R v xs) (hi : i < xs.length) (hR : R K [u] x1) (h1 : u.oneCell' = true) (hu : u.cells = [u].toArray)
    (h : ∀ H', OwnL E 1 H' K R v (xs.set i x1) → (∀ B, Fr B H → Fr B H') → KL C dr ops Q ims (F H') fl.tail rest G) (hfl : fl.headD false = false := by rfl) (hdr : (!dr || rest.isEmpty) = true := by rfl) :
    KL C dr ops Q ims L fl (⟨none, .store T x y, ty, pos, af, none⟩ :: rest) G := by
  obtain ⟨cs, h2, h3⟩ := hv
  have hl : cs.length = xs.length := by have := h2.1; omega
  refine kl_stO hx hy hp h2 (by omega) h1 hu (fun H' ho hf => h H' ⟨_, by simpa using ho, fun j hj => ?_⟩ hf) hfl hdr
  simp only [List.length_set] at hj
  have h4 := h3 j hj
  have hjl : j < cs.length := by omega
  simp only [Nat.mul_one] at h4 ⊢
  rw [List.drop_eq_getElem_cons hjl] at h4
  rw [List.drop_eq_getElem_cons (by simpa using hjl)]
  simp only [List.take_succ_cons, List.take_zero, List.getElem_set] at h4 ⊢
  by_cases e : i = j
  · subst e; simpa using hR
  · simpa [e] using h4
/-- A store of an element of k cells. -/
theorem kl_stLk {x y : Operand} {T i E k : Nat} {H K : Hp} {v p u : Value} {us : List Value} {xs : List A} {F : Hp → List Hp} [hT : AggC C.P T k] [hF : UpdF H L F] (x1 : A)
    (hx : ev G x = some p) (hy : ev G y = some u) (hp : PtrL k v p i) (hv : OwnL E k H K R v xs) (hi : i < xs.length) (hR : R K us x1) (hk : Nat.beq us.length k = true) (h1 : ∀ x ∈ us, x.oneCell' = true) (hu : u.cells = us.toArray)
    (h : ∀ H', OwnL E k H' K R v (xs.set i x1) → (∀ B, Fr B H → Fr B H') → KL C dr ops Q ims (F H') fl.tail rest G) (hfl : fl.headD false = false := by rfl) (hdr : (!dr || rest.isEmpty) = true := by rfl) :
    KL C dr ops Q ims L fl (⟨none, .store T x y, ty, pos, af, none⟩ :: rest) G := by
  obtain ⟨cs, h2, h3⟩ := hv
  have hus := Nat.eq_of_beq_eq_true hk
  have hl : cs.length = xs.length * k := h2.1
  have hik : (i + 1) * k ≤ xs.length * k := Nat.mul_le_mul_right _ hi
  rw [Nat.add_mul] at hik
  refine kl_stE hx hy hp h2 (by omega) hk h1 hu (fun H' ho hf => h H' ⟨_, by rw [List.length_set]; exact ho, fun j hj => ?_⟩ hf) hfl hdr
  simp only [List.length_set] at hj
  have h4 := h3 j hj
  have hjk : (j + 1) * k ≤ xs.length * k := Nat.mul_le_mul_right _ hj
  rw [Nat.add_mul] at hjk
  by_cases e : i = j
  · subst e
    have : ((cs.take (i * k) ++ us ++ cs.drop (i * k + k)).drop (i * k)).take k = us := by
      rw [List.append_assoc, List.drop_left' (by simp; omega), List.take_left' hus]
    rw [this]; simpa using hR
  · have : ((cs.take (i * k) ++ us ++ cs.drop (i * k + k)).drop (j * k)).take k = (cs.drop (j * k)).take k := by
      have hne : i * k + k ≤ j * k ∨ j * k + k ≤ i * k := by
        rcases Nat.lt_or_gt_of_ne e with h | h
        · left; have := Nat.mul_le_mul_right k (show i + 1 ≤ j from h); rw [Nat.add_mul] at this; omega
        · right; have := Nat.mul_le_mul_right k (show j + 1 ≤ i from h); rw [Nat.add_mul] at this; omega
      apply List.ext_getElem?
      intro q
      simp only [List.getElem?_take, List.getElem?_drop, List.getElem?_append, List.length_append, List.length_take, hus]
      have e2 : min (i * k) cs.length = i * k := by omega
      simp only [e2]
      by_cases hq : q < k
      · rw [if_pos hq, if_pos hq]
        rcases hne with h | h
        · rw [if_neg (by omega)]; congr 1; omega
        · rw [if_pos (by omega), if_pos (by omega), if_pos (by omega)]
      · rw [if_neg hq, if_neg hq]
    rw [this]
    have h5 : (xs.set i x1)[j]'(by simpa using hj) = xs[j] := by simp [e]
    rw [h5]; exact h4
/-- An append of one element. -/
theorem kl_apL {x y : Operand} {T E k by' : Nat} {z : Value} [hT : IsSlice C.P T E k by' z] {H K M : Hp} {v u : Value} {us : List Value} {xs : List A} {F : Hp → List Hp} [hF : UpdF H L F] [hi : In M ims] (x1 : A)
    (hx : ev G x = some v) (hy : ev G y = some u) (hv : OwnL E k H K R v xs) (hu : Rd M k u 1 us) (hR : R K us x1) (h1 : ∀ x ∈ us, x.oneCell' = true) (hb : xs.length + 1 ≤ 1073741824) (hby : by' ≤ 1024)
    (h : ∀ v' H', OwnL E k H' K R v' (xs ++ [x1]) → (∀ B : World, Fr B H → B.heap.size ≤ C.B.heap.size → Fr B H') → KL C dr ops Q ims (F H') fl.tail rest ((d, v') :: G)) (hlt : Nat.blt d C.n = true := by rfl) (hfl : fl.headD false = false := by rfl) (hdr : (!dr || rest.isEmpty || C.lo) = true := by rfl) :
    KL C dr ops Q ims L fl (⟨some d, .call ⟨.builtin .append, #[x, y], #[T, T]⟩, ty, pos, af, none⟩ :: rest) G := by
  obtain ⟨cs, h2, h3⟩ := hv
  have hus : us.length = k := by obtain ⟨_, _, _, h, _⟩ := hu; omega
  refine kl_app hx hy h2 hu h1 hb hby (fun v' H' ho hf => h v' H' ⟨_, by simpa using ho, fun j hj => ?_⟩ hf) hlt hfl hdr
  have hl : cs.length = xs.length * k := h2.1
  simp only [List.length_append, List.length_cons, List.length_nil] at hj
  by_cases e : j < xs.length
  · have hjk : (j + 1) * k ≤ xs.length * k := Nat.mul_le_mul_right _ e
    rw [Nat.add_mul] at hjk
    rw [List.drop_append_of_le_length (by omega), List.take_append_of_le_length (by simp; omega), List.getElem_append_left e]
    exact h3 j e
  · have hj' : j = xs.length := by omega
    subst hj'
    rw [List.drop_left' hl, List.take_of_length_le (by omega)]
    simpa using hR
end ops
class ROne {A : Type} (R : Rel A) : Prop where
  one : ∀ {K : Hp} {vs : List Value} {x : A}, R K vs x → ∀ u ∈ vs, u.oneCell' = true
instance : ROne IntV := ⟨fun h u hu => by subst h; rw [List.mem_singleton.1 hu]; rfl⟩
instance : ROne BoolV := ⟨fun h u hu => by subst h; rw [List.mem_singleton.1 hu]; rfl⟩
instance : ROne RowV := ⟨fun ⟨_, e, h⟩ u hu => by subst e; rw [List.mem_singleton.1 hu]; exact h.oneCell⟩
instance : ROne ConV := ⟨fun ⟨_, _, _, e, h1, h2, h3⟩ u hu => by
  subst e
  simp only [List.mem_cons, List.not_mem_nil, or_false] at hu
  rcases hu with rfl | rfl | rfl | rfl | rfl
  · rfl
  · exact h1.oneCell
  · exact h2.oneCell
  · rfl
  · exact h3.oneCell⟩
section whole
variable {A : Type} {R : Rel A} {C : Cx} {dr : Bool} {ops : Array Oper} {Q : Post} {ims L : List Hp} {G : Env} {fl : List Bool} {rest : List Oper} {d ty : Nat} {pos : String} {af : Array Edge}
/-- An append of a whole slice. -/
theorem kl_apS {x y : Operand} {T E k by' : Nat} {z : Value} [hT : IsSlice C.P T E k by' z] [hO : ROne R] {H K M : Hp} {R' : List Value → A → Prop} {v u : Value} {xs ys : List A} {F : Hp → List Hp} [hF : UpdF H L F] [hi : In M ims]
    (hx : ev G x = some v) (hy : ev G y = some u) (hv : OwnL E k H K R v xs) (hu : Sl M k R' u ys) (hR : ∀ vs y, R' vs y → R K vs y) (hb : xs.length + ys.length ≤ 1073741824) (hby : by' ≤ 1024)
    (h : ∀ v' H', OwnL E k H' K R v' (xs ++ ys) → (∀ B : World, Fr B H → B.heap.size ≤ C.B.heap.size → Fr B H') → KL C dr ops Q ims (F H') fl.tail rest ((d, v') :: G)) (hlt : Nat.blt d C.n = true := by rfl) (hfl : fl.headD false = false := by rfl) (hdr : (!dr || rest.isEmpty || C.lo) = true := by rfl) :
    KL C dr ops Q ims L fl (⟨some d, .call ⟨.builtin .append, #[x, y], #[T, T]⟩, ty, pos, af, none⟩ :: rest) G := by
  obtain ⟨cs, h2, h3⟩ := hv
  obtain ⟨news, hrd, hel⟩ := hu.rd
  have hlen : news.length = ys.length * k := by obtain ⟨_, _, _, h, _⟩ := hrd; exact h
  have hl : cs.length = xs.length * k := h2.1
  have hone : ∀ w ∈ news, w.oneCell' = true := fun w hw => by
    obtain ⟨j, hj, rfl⟩ := List.getElem_of_mem hw
    have hk : 0 < k := hT.p
    have hi : j / k < ys.length := (Nat.div_lt_iff_lt_mul hk).2 (by omega)
    refine hO.one (hR _ _ (hel (j / k) hi)) _ ?_
    have e : j / k * k + j % k = j := by rw [Nat.mul_comm]; exact Nat.div_add_mod j k
    have hm := Nat.mod_lt j hk
    rw [List.mem_iff_getElem?]
    refine ⟨j % k, ?_⟩
    rw [List.getElem?_take, if_pos hm, List.getElem?_drop, e]
    exact List.getElem?_eq_getElem hj
  refine kl_app hx hy h2 hrd hone hb hby (fun v' H' ho hf => h v' H' ⟨_, by simpa using ho, fun j hj => ?_⟩ hf) hlt hfl hdr
  rw [List.length_append] at hj
  by_cases e : j < xs.length
  · have hjk : (j + 1) * k ≤ xs.length * k := Nat.mul_le_mul_right _ e
    rw [Nat.add_mul] at hjk
    rw [List.drop_append_of_le_length (by omega), List.take_append_of_le_length (by simp; omega), List.getElem_append_left e]
    exact h3 j e
  · have hjx : j * k = cs.length + (j - xs.length) * k := by rw [hl, ← Nat.add_mul]; congr 1; omega
    have e1 : (cs ++ news).drop (j * k) = news.drop ((j - xs.length) * k) := by
      rw [hjx, List.drop_append, List.drop_eq_nil_of_le (by omega), List.nil_append]
      congr 1; omega
    rw [e1, List.getElem_append_right (by omega)]
    exact hR _ _ (hel _ (by omega))
end whole
end Go.Proofs.YtojinjdobjodaaaGreat
namespace Go.Proofs.YtojinjdobjodaaaGreat
open Go
set_option linter.unusedSimpArgs false
set_option linter.unusedVariables false

/-- Two heaplets of one world. -/
def Cmp (H K : Hp) : Prop := ∀ b o o', H b = some o → K b = some o' → o = o'
theorem Cmp.symm {H K : Hp} (h : Cmp H K) : Cmp K H := fun b o o' h1 h2 => (h b o' o h2 h1).symm
theorem orC {H K : Hp} (c : Cmp H K) : ∀ b o, K b = some o → orHp H K b = some o := fun b o h => by
  cases hh : H b with
  | none => simp [orHp, hh, h]
  | some x => simp [orHp, hh, c b x o hh h]
theorem agree_cmp {H K : Hp} {w : World} (h : Agree H w) (k : Agree K w) : Cmp H K := fun b o o' h1 h2 => by
  have := (h b o h1).symm.trans (k b o' h2)
  simpa using this
section
variable {C : Cx} {Q : Post} {ims L : List Hp} {G : Env}
theorem kq_cmp (H K : Hp) [g : Got H ims L] [k : Got K ims L] {p : Act → World → Prop} (h : Cmp H K → KQ C ims L G p) : KQ C ims L G p := fun a w hf hs => h (agree_cmp (g.g hs) (k.g hs)) a w hf hs
theorem kl_cmp (H K : Hp) [g : Got H ims L] [k : Got K ims L] {dr : Bool} {ops : Array Oper} {fl : List Bool} {l : List Oper} (h : Cmp H K → KL C dr ops Q ims L fl l G) : KL C dr ops Q ims L fl l G :=
  fun a w hf hs => h (agree_cmp (g.g hs) (k.g hs)) a w hf hs
end
theorem oc_nil : ∀ x ∈ ([] : List Value), x.oneCell' = true := fun _ h => by cases h
theorem oc {u : Value} {us : List Value} (h : u.oneCell' = true) (t : ∀ x ∈ us, x.oneCell' = true) : ∀ x ∈ u :: us, x.oneCell' = true := fun x hx => by
  cases hx with
  | head => exact h
  | tail _ hx => exact t x hx
theorem ca_nil : ∀ x ∈ ([] : List Value), x.cells = #[x] := fun _ h => by cases h
theorem ca {u : Value} {us : List Value} (h : u.cells = #[u]) (t : ∀ x ∈ us, x.cells = #[x]) : ∀ x ∈ u :: us, x.cells = #[x] := fun x hx => by
  cases hx with
  | head => exact h
  | tail _ hx => exact t x hx

section rets
variable {P : Program} {n : Nat} {B : World} {ims L : List Hp} {G : Env} {fn : Func} {phi : Hp → Value → Prop}
theorem kq_retC {a T b E k : Nat} {cs : List Value} {F : List Value → List Hp} [hT : AggC P T k] [hF : BoxF b cs E L F] (hr : fn.results = #[.cell a T]) (hv : look a G = some (.pointer (some ⟨b, 0, none⟩))) (hk : Nat.beq cs.length k = true)
    (H : Hp) [hg : Got H ims L] (hf : Fr B H) (hp : phi H (.agg cs.toArray)) : KQ ⟨P, n, B, noS, false, [], none⟩ ims L G (bodyPost P fn (Res B phi) .ret) := fun a' w hFt hS => by
  refine ⟨hFt.defers, .agg cs.toArray, ?_, hS.toExt, H, hg.g hS, hf, hp⟩
  have hA := (hS.own _ (hF.u cs).mem).1
  have hat : At (sing b (.cells cs.toArray E (0, 0))) (.pointer (some ⟨b, 0, none⟩)) cs := At.sing (cs := cs.toArray)
  have hc := loadCells_at (P := P) hA hat
  rw [Nat.eq_of_beq_eq_true hk] at hc
  have h1 : (loadVar T ⟨b, 0, none⟩).run P w = .ok (.agg cs.toArray) w := by
    simp only [loadVar, Sem.run_bind, Sem.run_pure, Result.andThen_ok, AggC.run, sizeOf_run hT.i, hc, if_true]
  have h2 : a'.tmps.getD a undef = .pointer (some ⟨b, 0, none⟩) := (hFt.get a _ hv).2
  simp [results, hr, asAddr]
  simp at h2
  simp [h2, h1]
end rets

/-! A call whose result the caller may write. -/
theorem kl_callL {C : Cx} {dr : Bool} {ops : Array Oper} {Q : Post} {ims L : List Hp} {G : Env} {fl : List Bool} {rest : List Oper} {d ty : Nat} {pos : String} {af : Array Edge}
    {f : Operand} {xs : List Operand} {ats : Array Nat} {g : Nat} {cap : Array Value} {vs : List Value} {ims' : List Hp} {phi : Hp → Value → Prop} [hb : FnC C.P g]
    (hf : ev G f = some (.func (.func g) #[] cap)) (ha : evs G xs = some vs) (hs : Spec C.P g (vs ++ cap.toList) ims' phi) [hi : AllGot ims' ims L]
    (h : ∀ v H, Fr C.B H → phi H v → KL C dr ops Q ims (H :: L) fl.tail rest ((d, v) :: G)) (hlt : Nat.blt d C.n = true := by rfl) (hfl : fl.headD false = false := by rfl) :
    KL C dr ops Q ims L fl (⟨some d, .call ⟨.value f, xs.toArray, ats⟩, ty, pos, af, none⟩ :: rest) G :=
  kl_act rfl hfl fun a w hF hS => by
    have hrun : (execOp a.eval ⟨some d, .call ⟨.value f, xs.toArray, ats⟩, ty, pos, af, none⟩).run C.P w = .ok (.enter g (vs ++ cap.toList).toArray) w := by
      have h1 : xs.map a.eval = vs := hF.evs ha
      simp only [execOp, resolve, hF.ev hf, Deferred.ofValue, Sem.run_bind, Sem.run_pure, Result.andThen_ok, invoke, List.map_toArray, h1]
      rw [hb.run]
      simp
    unfold Oper.wp
    rw [hrun]
    refine (hs w (fun H hH => hi.g hS H hH)).mono fun e w' he => ?_
    cases e with
    | returned v =>
      obtain ⟨h1, H, h2, h3, h4⟩ := he
      exact ⟨ims, H :: L, _, .inr (fun _ u hu => hu.wl (.cons _ (List.Sublist.refl _))), hF.put (by simpa [Nat.blt_eq, Cx.m] using hlt),
        hS.push h1 h2 h3.1, h v H ⟨fun b hb => Nat.le_trans hS.size (h3.1 b hb), h3.2⟩ h4⟩
    | panicked c => exact he
    | outgrown => exact he.elim

/-! Fixed memory that is put together in a loop. -/
class GotI (H : Hp) (ims : List Hp) : Prop where
  g : ∀ {B : World} {X : Side} {L : List Hp} {w : World}, St B X ims L w → Agree H w ∧ ∀ K ∈ L, Apart K H
  d : ∀ b, H b ≠ none → ∃ K ∈ ims, K b ≠ none
instance (ims : List Hp) : GotI noHp ims := ⟨fun _ => ⟨agree_no _, fun _ _ _ => .inr rfl⟩, fun _ h => absurd rfl h⟩
instance (H K : Hp) (ims : List Hp) [h : GotI H ims] [k : GotI K ims] : GotI (orHp H K) ims :=
  ⟨fun s => ⟨agree_or (h.g s).1 (k.g s).1, fun M hM b => by
    rcases (h.g s).2 M hM b with h1 | h1
    · exact .inl h1
    · rcases (k.g s).2 M hM b with h2 | h2
      · exact .inl h2
      · exact .inr (by simp [orHp, h1, h2])⟩, fun b hb => by
    cases hh : H b with
    | some o => exact h.d b (by rw [hh]; simp)
    | none => exact k.d b (by simpa [orHp, hh] using hb)⟩
instance (H : Hp) (ims : List Hp) [i : In H ims] : GotI H ims := ⟨fun s => ⟨s.im H i.mem, fun K hK => (s.own K hK).2.2 H i.mem⟩, fun _ hb => ⟨H, i.mem, hb⟩⟩
theorem kc_loopK {C : Cx} {Q : Post} {ims L : List Hp} {G : Env} {A : Type} {body : Code} (J : A → Prop) (mu : A → Nat) (Kf : A → Hp) (Lf : A → List Hp) (Gf : A → Env) (x0 : A) {Gx : Env} (hx : Pick G Gx) (hg : Pick G (Gf x0)) [gi : GotI (Kf x0) ims] (hl : L = Lf x0) (h0 : J x0)
    (round : ∀ x, J x → KC C (Exit.then (fun a w => ∃ x', mu x' < mu x ∧ J x' ∧ Fit C.m (Gf x' ++ Gx) a ∧ St C.B C.X (Kf x' :: ims) (Lf x') w) Q) (Kf x :: ims) (Lf x) body (Gf x ++ Gx)) :
    KC C Q ims L (.loop body) G := by
  have h : KC C Q (Kf x0 :: ims) L (.loop body) G :=
    kc_loop J mu (fun x => [Kf x]) Lf Gf x0 (ims0 := ims) hx hg rfl hl h0 round
  intro a w hf hs
  exact h a w hf (hs.addIm (gi.g hs).1 (gi.g hs).2 gi.d)
theorem kq_roundK {C : Cx} {ims L : List Hp} {G : Env} {A : Type} {J : A → Prop} {mu : A → Nat} {Kf : A → Hp} {Lf : A → List Hp} {Gf : A → Env} {x : A} {Gx : Env} {ims0 L0 : List Hp} (x' : A)
    (hlt : mu x' < mu x) (hJ : J x') (hg : Pick G (Gf x')) (hx : Pick G Gx) (hl : L0 = Lf x') [gi : GotI (Kf x') ims] [hi : AllIn ims0 ims] (hs : List.Sublist L0 L) :
    KQ C ims L G (fun a w => ∃ x', mu x' < mu x ∧ J x' ∧ Fit C.m (Gf x' ++ Gx) a ∧ St C.B C.X (Kf x' :: ims0) (Lf x') w) :=
  fun _ _ hf hs' => ⟨x', hlt, hJ, (hg.app hx).fit hf, by
    subst hl
    have h1 : St C.B C.X (Kf x' :: ims) L _ := hs'.addIm (gi.g hs').1 (gi.g hs').2 gi.d
    have i2 : AllIn (Kf x' :: ims0) (Kf x' :: ims) := ⟨fun a ha => by
      cases ha with
      | head => exact .head _
      | tail _ ha => exact .tail _ (hi.all a ha)⟩
    exact h1.weak (i := i2) hs⟩
theorem kl_gU {C : Cx} {dr : Bool} {ops : Array Oper} {Q : Post} {ims L : List Hp} {G : Env} {fl : List Bool} {rest : List Oper} {d ty : Nat} {pos : String} {af : Array Edge}
    {op : Op} {j dj : Nat} {c : Bool} (hj : (ops[j]?).bind (·.dst) = some dj) (hv : look dj G = some undef)
    (h : KL C dr ops Q ims L fl.tail rest ((d, undef) :: G)) (hlt : Nat.blt d C.n = true := by rfl) : KL C dr ops Q ims L fl (⟨some d, op, ty, pos, af, some (j, c)⟩ :: rest) G := fun a w hf hs => by
  obtain ⟨h2, h3⟩ := hf.get dj _ hv
  have hy : yielded ops a.tmps j = none := by
    unfold yielded
    rw [hj]
    simp only [Option.bind_some]
    have : a.tmps[dj]? = some undef := by
      rw [Array.getElem?_eq_getElem (by rw [hf.size]; exact h2)]
      rw [← h3]
      simp [Array.getD, hf.size, h2]
    rw [this]
    rfl
  unfold wpSeq
  have : Region.wanted ⟨some d, op, ty, pos, af, some (j, c)⟩ (yielded ops a.tmps) = false := by simp [Region.wanted, hy]
  rw [if_neg (by simp [this])]
  exact h _ w (hf.put (by simpa [Nat.blt_eq, Cx.m] using hlt)) hs

/-! Bits. -/
def iand (x y : Int) : Int := bits .and .i64 x y
def ior (x y : Int) : Int := bits .or .i64 x y
def iandNot (x y : Int) : Int := bits .andNot .i64 x y
def ishl (x y : Int) : Int := IntKind.i64.wrap (x * 2 ^ min y.toNat 64)
def ishr (x y : Int) : Int := x.fdiv (2 ^ min y.toNat 64)
section ops
variable {C : Cx} {dr : Bool} {ops : Array Oper} {Q : Post} {ims L : List Hp} {G : Env} {fl : List Bool} {rest : List Oper}
  {d ty : Nat} {pos : String} {af : Array Edge} {x y : Operand} {T T2 : Nat} {m k : Int} (hx : ev G x = some (.int .i64 m)) (hy : ev G y = some (.int .i64 k))
include hx hy
theorem kl_and (h : KL C dr ops Q ims L fl.tail rest ((d, .int .i64 (iand m k)) :: G)) (hlt : Nat.blt d C.n = true := by rfl) :
    KL C dr ops Q ims L fl (⟨some d, .binOp .and T x y T2, ty, pos, af, none⟩ :: rest) G := kl_y (fun a w hf _ => by simp [go_sem, hf _ _ hx, hf _ _ hy, iand]) h hlt
theorem kl_or (h : KL C dr ops Q ims L fl.tail rest ((d, .int .i64 (ior m k)) :: G)) (hlt : Nat.blt d C.n = true := by rfl) :
    KL C dr ops Q ims L fl (⟨some d, .binOp .or T x y T2, ty, pos, af, none⟩ :: rest) G := kl_y (fun a w hf _ => by simp [go_sem, hf _ _ hx, hf _ _ hy, ior]) h hlt
theorem kl_andNot (h : KL C dr ops Q ims L fl.tail rest ((d, .int .i64 (iandNot m k)) :: G)) (hlt : Nat.blt d C.n = true := by rfl) :
    KL C dr ops Q ims L fl (⟨some d, .binOp .andNot T x y T2, ty, pos, af, none⟩ :: rest) G := kl_y (fun a w hf _ => by simp [go_sem, hf _ _ hx, hf _ _ hy, iandNot]) h hlt
theorem kl_shl (h0 : 0 ≤ k) (h : KL C dr ops Q ims L fl.tail rest ((d, .int .i64 (ishl m k)) :: G)) (hlt : Nat.blt d C.n = true := by rfl) :
    KL C dr ops Q ims L fl (⟨some d, .binOp .shl T x y T2, ty, pos, af, none⟩ :: rest) G := kl_y (fun a w hf _ => by
      have : ¬ k < 0 := by omega
      simp [go_sem, hf _ _ hx, hf _ _ hy, ishl, Op.shift, this, IntKind.bits]) h hlt
theorem kl_shr (h0 : 0 ≤ k) (h : KL C dr ops Q ims L fl.tail rest ((d, .int .i64 (ishr m k)) :: G)) (hlt : Nat.blt d C.n = true := by rfl) :
    KL C dr ops Q ims L fl (⟨some d, .binOp .shr T x y T2, ty, pos, af, none⟩ :: rest) G := kl_y (fun a w hf _ => by
      have : ¬ k < 0 := by omega
      simp [go_sem, hf _ _ hx, hf _ _ hy, ishr, Op.shift, this, IntKind.bits]) h hlt
end ops
/-- A list of integers that is written out and owned. -/
theorem kl_bsI {C : Cx} {dr : Bool} {ops : Array Oper} {Q : Post} {ims L : List Hp} {G : Env} {fl : List Bool} {rest : List Oper} {d ty : Nat} {pos : String} {af : Array Edge}
    {T E by' n : Nat} {z : Value} [hT : IsSlice C.P T E 1 by' z] {ps : List (Nat × Operand)} {pv : List (Nat × Value)} (xs : List Int)
    (hp : evp G ps = some pv) (he : pv = enumV 0 (xs.map (Value.int .i64))) (hn : Nat.beq (xs.map (Value.int .i64)).length n = true) (hm : n ≤ 1000)
    (h : ∀ v H, Fr C.B H → OwnL E 1 H noHp IntV v xs → KL C dr ops Q ims (H :: L) fl.tail rest ((d, v) :: G)) (hlt : Nat.blt d C.n = true := by rfl) (hfl : fl.headD false = false := by rfl) :
    KL C dr ops Q ims L fl (⟨some d, .buildSlice T n ps.toArray, ty, pos, af, none⟩ :: rest) G :=
  kl_bsO hp he hn hm (fun u hu => by obtain ⟨x, _, rfl⟩ := List.mem_map.1 hu; rfl) (fun v H f o => h v H f ⟨xs.map (Value.int .i64), by
    have := Nat.eq_of_beq_eq_true hn; simp only [List.length_map] at this; rw [this]; exact o, fun i hi => by
    simp only [IntV, Nat.mul_one]
    rw [List.take_one, List.head?_drop]; simp [hi]⟩) hlt hfl
end Go.Proofs.YtojinjdobjodaaaGreat
