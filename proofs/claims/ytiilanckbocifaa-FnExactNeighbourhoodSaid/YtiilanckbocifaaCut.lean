/- Parts of lists that a call owns: x[:i], x[j:], append(x[:i], x[j:]...), clear of what lies behind. Conditions: none. -/
import Derived.Test.YtiilanckbocifaaTwo
namespace Go.Proofs.Ytiilanckbocifaa
open Go
set_option linter.unusedSimpArgs false
set_option linter.unusedVariables false
/-- t is v[:i]. -/
def HeadV (v t : Value) (i : Nat) : Prop := ∃ b n c, v = .slice (some ⟨b, 0, none⟩) n c ∧ t = .slice (some ⟨b, 0, none⟩) i c
/-- u is v[j:]. -/
def TailV (k : Nat) (v u : Value) (j : Nat) : Prop := ∃ b n c, v = .slice (some ⟨b, 0, none⟩) n c ∧ u = .slice (some ⟨b, if c = j then 0 else j * k, none⟩) (n - j) (c - j)
/-- v may grow to n elements where it lies. -/
def CapV (v : Value) (n : Nat) : Prop := ∃ b m c, v = .slice (some ⟨b, 0, none⟩) m c ∧ n ≤ c
/-- u is what lies behind v, up to n elements. -/
def RestV (k : Nat) (v u : Value) (n : Nat) : Prop := ∃ b m c o, v = .slice (some ⟨b, 0, none⟩) m c ∧ n ≤ c ∧ u = .slice (some ⟨b, o, none⟩) (n - m) (c - m) ∧ (m < n → o = m * k)
section ops
variable {C : Cx} {dr : Bool} {ops : Array Oper} {Q : Post} {ims L : List Hp} {G : Env} {fl : List Bool} {rest : List Oper} {d ty : Nat} {pos : String} {af : Array Edge}
variable {A : Type} {R : Rel A} {E k : Nat} {H K : Hp} {v : Value} {xs : List A} {x y : Operand} {T k' by' : Nat} {z : Value}
theorem own_some (hv : OwnL E k H K R v xs) (h0 : 0 < xs.length) : ∃ b c, v = .slice (some ⟨b, 0, none⟩) xs.length c ∧ xs.length ≤ c := by
  obtain ⟨cs, ⟨_, _, h⟩, _⟩ := hv
  rcases h with ⟨_, _, hn, _⟩ | ⟨b, c, cur, e, h2, _⟩
  · omega
  · exact ⟨b, c, e, h2⟩
theorem kl_head {i : Nat} [hT : IsSlice C.P T E k' by' z] (hx : ev G x = some v) (hy : ev G y = some (.int .i64 (i : Int))) (hv : OwnL E k H K R v xs) (h0 : 0 < xs.length) (h1 : i ≤ xs.length)
    (h : ∀ u, HeadV v u i → KL C dr ops Q ims L fl.tail rest ((d, u) :: G)) (hlt : Nat.blt d C.n = true := by rfl) :
    KL C dr ops Q ims L fl (⟨some d, .slice T x none (some y) none, ty, pos, af, none⟩ :: rest) G := by
  obtain ⟨b, c, rfl, hc⟩ := own_some hv h0
  refine kl_y (v := .slice (some ⟨b, 0, none⟩) i c) (fun r w hr _ => ?_) (h _ ⟨b, _, c, rfl, rfl⟩) hlt
  simp only [execOp, Sem.run_bind, hr _ _ hx, hr _ _ hy, Option.map_some, Option.map_none]
  have h3 : i ≤ c := by omega
  simp [Instr.sliceAt, run_underlying hT.u, Instr.slice, Instr.sliceBounds, Instr.sliceBound, asIntOf, go_sem, sizeOf_run hT.size, Addr.add, h3]
theorem kl_tail {j : Nat} [hT : IsSlice C.P T E k by' z] (hx : ev G x = some v) (hy : ev G y = some (.int .i64 (j : Int))) (hv : OwnL E k H K R v xs) (h0 : 0 < xs.length) (h1 : j ≤ xs.length)
    (h : ∀ u, TailV k v u j → KL C dr ops Q ims L fl.tail rest ((d, u) :: G)) (hlt : Nat.blt d C.n = true := by rfl) :
    KL C dr ops Q ims L fl (⟨some d, .slice T x (some y) none none, ty, pos, af, none⟩ :: rest) G := by
  obtain ⟨b, c, rfl, hc⟩ := own_some hv h0
  refine kl_y (v := .slice (some ⟨b, if c = j then 0 else j * k, none⟩) (xs.length - j) (c - j)) (fun r w hr _ => ?_) (h _ ⟨b, _, c, rfl, rfl⟩) hlt
  simp only [execOp, Sem.run_bind, hr _ _ hx, hr _ _ hy, Option.map_some, Option.map_none]
  have h3 : j ≤ c := by omega
  by_cases e : c = j
  · simp [Instr.sliceAt, run_underlying hT.u, Instr.slice, Instr.sliceBounds, Instr.sliceBound, asIntOf, go_sem, sizeOf_run hT.size, Addr.add, h1, h3, e]
    try exact fun h => h.symm
  · simp [Instr.sliceAt, run_underlying hT.u, Instr.slice, Instr.sliceBounds, Instr.sliceBound, asIntOf, go_sem, sizeOf_run hT.size, Addr.add, h1, h3, e]
    try exact fun h => h.symm
/-- x[lo:hi:max], of which nothing is told. -/
theorem kl_sl3 {i j n : Nat} {x0 y0 z0 : Operand} [hT : IsSlice C.P T E k by' z] (hx : ev G x = some v) (hl : ev G x0 = some (.int .i64 (i : Int))) (hy : ev G y0 = some (.int .i64 (j : Int))) (hz : ev G z0 = some (.int .i64 (n : Int))) (hv : OwnL E k H K R v xs) (h0 : 0 < xs.length) (h1 : i ≤ j) (h2 : j ≤ n) (h3 : n ≤ xs.length)
    (h : ∀ u, KL C dr ops Q ims L fl.tail rest ((d, u) :: G)) (hlt : Nat.blt d C.n = true := by rfl) :
    KL C dr ops Q ims L fl (⟨some d, .slice T x (some x0) (some y0) (some z0), ty, pos, af, none⟩ :: rest) G := by
  obtain ⟨b, c, rfl, hc⟩ := own_some hv h0
  have h4 : n ≤ c := by omega
  refine kl_y (v := .slice (if n = i then some ⟨b, 0, none⟩ else some ⟨b, i * k, none⟩) (j - i) (n - i)) (fun r w hr _ => ?_) (h _) hlt
  simp only [execOp, Sem.run_bind, hr _ _ hx, hr _ _ hl, hr _ _ hy, hr _ _ hz, Option.map_some, Option.map_none]
  simp [Instr.sliceAt, run_underlying hT.u, Instr.slice, Instr.sliceBounds, Instr.sliceBound, asIntOf, go_sem, sizeOf_run hT.size, Addr.add, h1, h2, h4]
  split
  · rfl
  · congr 1; split
    · rename_i e; rw [e]
    · rfl
theorem kl_rest {n : Nat} {x0 y0 : Operand} [hT : IsSlice C.P T E k by' z] (hx : ev G x = some v) (hl : ev G x0 = some (.int .i64 (xs.length : Int))) (hy : ev G y0 = some (.int .i64 (n : Int))) (hv : OwnL E k H K R v xs) (hc : CapV v n) (h1 : xs.length ≤ n)
    (h : ∀ u, RestV k v u n → KL C dr ops Q ims L fl.tail rest ((d, u) :: G)) (hlt : Nat.blt d C.n = true := by rfl) :
    KL C dr ops Q ims L fl (⟨some d, .slice T x (some x0) (some y0) none, ty, pos, af, none⟩ :: rest) G := by
  obtain ⟨b, m, c, rfl, hn⟩ := hc
  have hm : m = xs.length := by
    obtain ⟨cs, ⟨_, _, h⟩, _⟩ := hv
    rcases h with ⟨_, e, hn, _⟩ | ⟨b, c, cur, e, _⟩
    · injection e with _ e1 _; omega
    · injection e
  subst hm
  refine kl_y (v := .slice (some ⟨b, if c = xs.length then 0 else xs.length * k, none⟩) (n - xs.length) (c - xs.length)) (fun r w hr _ => ?_) (h _ ⟨b, _, c, _, rfl, hn, rfl, fun e => by rw [if_neg (by omega)]⟩) hlt
  simp only [execOp, Sem.run_bind, hr _ _ hx, hr _ _ hl, hr _ _ hy, Option.map_some, Option.map_none]
  by_cases e : c = xs.length
  · have e2 : n = xs.length := by omega
    subst e2
    simp [Instr.sliceAt, run_underlying hT.u, Instr.slice, Instr.sliceBounds, Instr.sliceBound, asIntOf, go_sem, sizeOf_run hT.size, Addr.add, e]
  · simp [Instr.sliceAt, run_underlying hT.u, Instr.slice, Instr.sliceBounds, Instr.sliceBound, asIntOf, go_sem, sizeOf_run hT.size, Addr.add, h1, hn, e]
    try exact fun h => h.symm
/-- append(x[:i], x[j:]...): the parts between go. -/
theorem kl_apT {i j : Nat} {t u : Value} {F : Hp → List Hp} [hT : IsSlice C.P T E k by' z] [hO : ROne R] [hF : UpdF H L F]
    (hx : ev G x = some t) (hy : ev G y = some u) (ht : HeadV v t i) (hu : TailV k v u j) (hv : OwnL E k H K R v xs) (h0 : 0 < xs.length) (hij : i ≤ j) (hj : j ≤ xs.length)
    (h : ∀ v' H', OwnL E k H' K R v' (xs.take i ++ xs.drop j) → CapV v' xs.length → (∀ B : World, Fr B H → Fr B H') → KL C dr ops Q ims (F H') fl.tail rest ((d, v') :: G)) (hlt : Nat.blt d C.n = true := by rfl) (hfl : fl.headD false = false := by rfl) (hdr : (!dr || rest.isEmpty || C.lo) = true := by rfl) :
    KL C dr ops Q ims L fl (⟨some d, .call ⟨.builtin .append, #[x, y], #[T, T]⟩, ty, pos, af, none⟩ :: rest) G :=
  kl_act rfl hfl fun a w hf hs => by
    obtain ⟨inf, hinfo, hz, hk, hbb⟩ := hT.info
    obtain ⟨cs, ⟨hcl, hn1, ho⟩, hR⟩ := hv
    rcases ho with ⟨_, _, hn, _⟩ | ⟨b, c, cur, rfl, h2, h3, h4, h5, rfl⟩
    · omega
    obtain ⟨b1, n1, c1, e1, rfl⟩ := ht
    obtain ⟨b2, n2, c2, e2, rfl⟩ := hu
    simp only [Value.slice.injEq, Option.some.injEq, Addr.mk.injEq, and_true] at e1 e2
    obtain ⟨rfl, rfl, rfl⟩ := e1
    obtain ⟨rfl, rfl, rfl⟩ := e2
    have hA := (hs.own _ (hF.u (sing b (.cells cur E (0, 0)))).mem).1 b _ (sing_self _ _)
    have hjk : j * k ≤ xs.length * k := Nat.mul_le_mul_right _ hj
    have hik : i * k ≤ j * k := Nat.mul_le_mul_right _ hij
    have hck : xs.length * k ≤ c * k := Nat.mul_le_mul_right _ h2
    have hsub : (xs.length - j) * k = xs.length * k - j * k := Nat.sub_mul _ _ _
    have hnl : (cs.drop (j * k)).length = (xs.length - j) * k := by rw [List.length_drop, hcl, hsub]
    have hone : ∀ w ∈ cs.drop (j * k), w.oneCell' = true := fun w hw => by
      have hw := List.mem_of_mem_drop hw
      obtain ⟨q, hq, rfl⟩ := List.getElem_of_mem hw
      have hkp : 0 < k := hT.p
      have hi : q / k < xs.length := (Nat.div_lt_iff_lt_mul hkp).2 (by omega)
      refine hO.one (hR (q / k) hi) _ ?_
      have e : q / k * k + q % k = q := by rw [Nat.mul_comm]; exact Nat.div_add_mod q k
      have hm := Nat.mod_lt q hkp
      rw [List.mem_iff_getElem?]
      refine ⟨q % k, ?_⟩
      rw [List.getElem?_take, if_pos hm, List.getElem?_drop, e]
      exact List.getElem?_eq_getElem hq
    have hnews : ∀ q u, (cs.drop (j * k))[q]? = some u → w.cell? ((⟨b, if c = j then 0 else j * k, none⟩ : Addr).add q) = some u := fun q u hq => by
      have hql := (List.getElem?_eq_some_iff.1 hq).1
      rw [hnl, hsub] at hql
      have hcj : c ≠ j := fun e => by subst e; have : xs.length * k ≤ c * k := hck; omega
      rw [if_neg hcj, Addr.add_lit]
      rw [List.getElem?_drop, ← h5, List.getElem?_take, if_pos (by omega)] at hq
      simp [World.cell?, hA]; simpa using hq
    have hrun := run_append_room (P := C.P) w T ty E inf hT.u hinfo b i c cur hA ⟨b, if c = j then 0 else j * k, none⟩ (xs.length - j) (c - j) (cs.drop (j * k)) (by rw [hk]; exact hnl) hnews hone (by omega) (by rw [hk, hnl, hsub]; omega)
    rw [hk] at hrun
    have hdr' : rest = [] ∨ (dr = true → C.lo = true) := by
      cases dr with
      | true =>
        simp only [Bool.not_true, Bool.false_or, Bool.or_eq_true, List.isEmpty_iff] at hdr
        exact hdr.imp id (fun h _ => h)
      | false => right; intro e; cases e
    have hr : (execOp a.eval ⟨some d, .call ⟨.builtin .append, #[x, y], #[T, T]⟩, ty, pos, af, none⟩).run C.P w = .ok (.value (.slice (some ⟨b, 0, none⟩) (i + (xs.length - j)) c)) (w.setRow b (cur.toList.take (i * k) ++ cs.drop (j * k) ++ cur.toList.drop (i * k + (cs.drop (j * k)).length)).toArray) := by
      simp only [execOp, resolve, Sem.run_bind, Sem.run_pure, Result.andThen_ok, invoke, builtin, List.map_toArray, List.map_cons, List.map_nil, hf.ev hx, hf.ev hy, hrun]
    unfold Oper.wp
    rw [hr]
    have hszc : cur.toList.length = cur.size := by simp
    have hlen : (xs.take i ++ xs.drop j).length = i + (xs.length - j) := by rw [List.length_append, List.length_take, List.length_drop]; omega
    have hcsl : (cs.take (i * k)).length = i * k := by rw [List.length_take, hcl]; omega
    refine ⟨ims, F (sing b (.cells (cur.toList.take (i * k) ++ cs.drop (j * k) ++ cur.toList.drop (i * k + (cs.drop (j * k)).length)).toArray E (0, 0))), _, hdr'.imp id (fun h e u hu => hu.wlo (h e)), hf.put (by simpa [Nat.blt_eq, Cx.m] using hlt), hs.upd (u := ⟨hF.u _⟩) (by simp) (fun b' _ hn => ?_) (fun b' o' hb' => ?_) (fun b' hb' => .inl ?_) ⟨rfl, rfl⟩,
      h _ _ ⟨cs.take (i * k) ++ cs.drop (j * k), ⟨?_, ?_, .inr ⟨b, c, _, by rw [hlen], ?_, h3, ?_, ?_, rfl⟩⟩, fun e he => ?_⟩ ⟨b, _, c, rfl, h2⟩ (fun B hB => ⟨fun b' hb' => hB.1 b' ?_, liq_sing⟩)⟩
    · have hne : b' ≠ b := fun e => by subst e; simp at hn
      exact setRow_other w b b' _ hne
    · obtain ⟨rfl, rfl⟩ := sing_some hb'
      exact setRow_heap w _ cur _ E _ hA
    · by_cases e : b' = b
      · subst e; simp
      · simp [sing, e] at hb'
    · rw [List.length_append, hcsl, hnl, hlen, Nat.add_mul]
    · rw [hlen]; omega
    · rw [hlen]; omega
    · simp only [List.size_toArray, List.length_append, List.length_take, List.length_drop, Array.length_toList, hcl]; omega
    · simp only []
      have e1 : cur.toList.take (i * k) = cs.take (i * k) := by rw [← h5, List.take_take, Nat.min_eq_left (by omega)]
      rw [e1]
      have e2 : (xs.take i ++ xs.drop j).length * k = (cs.take (i * k) ++ cs.drop (j * k)).length := by rw [hlen, List.length_append, hcsl, hnl, Nat.add_mul]
      rw [e2]; exact List.take_left
    · rw [hlen] at he
      by_cases h6 : e < i
      · have hek : (e + 1) * k ≤ i * k := Nat.mul_le_mul_right _ h6
        rw [Nat.add_mul] at hek
        have h7 := hR e (by omega)
        rw [List.getElem_append_left (by rw [List.length_take]; omega), List.getElem_take]
        rw [List.drop_append_of_le_length (by omega), List.take_append_of_le_length (by rw [List.length_drop, hcsl]; omega)]
        rw [List.drop_take, List.take_take, Nat.min_eq_left (by omega)]
        exact h7
      · have h7 := hR (j + (e - i)) (by omega)
        rw [List.getElem_append_right (by rw [List.length_take]; omega), List.getElem_drop]
        have e3 : (cs.take (i * k) ++ cs.drop (j * k)).drop (e * k) = cs.drop ((j + (e - i)) * k) := by
          have h8 : i * k ≤ e * k := Nat.mul_le_mul_right _ (by omega)
          have h9 : (e - i) * k = e * k - i * k := Nat.sub_mul _ _ _
          rw [List.drop_append, List.drop_eq_nil_of_le (by omega), List.nil_append, List.drop_drop, hcsl]
          congr 1; rw [Nat.add_mul]; omega
        rw [e3]
        have e4 : j + (e - (xs.take i).length) = j + (e - i) := by rw [List.length_take]; omega
        simpa only [e4] using h7
    · by_cases e : b' = b
      · subst e; simp
      · simp [sing, e] at hb'
/-- clear of what lies behind an owned list: the list stays. -/
theorem kl_clr {n : Nat} {u : Value} {F : Hp → List Hp} [hT : IsSlice C.P T E k by' z] [hF : UpdF H L F]
    (hx : ev G x = some u) (hu : RestV k v u n) (hv : OwnL E k H K R v xs) (hz1 : (z.cells.toList.all fun c => c.oneCell') = true)
    (h : ∀ H', OwnL E k H' K R v xs → (∀ B : World, Fr B H → Fr B H') → KL C dr ops Q ims (F H') fl.tail rest G) (hfl : fl.headD false = false := by rfl) (hdr : (!dr || rest.isEmpty || C.lo) = true := by rfl) :
    KL C dr ops Q ims L fl (⟨none, .call ⟨.builtin .clear, #[x], #[T]⟩, ty, pos, af, none⟩ :: rest) G :=
  kl_act rfl hfl fun a w hf hs => by
    obtain ⟨inf, hinfo, hz, hk, hbb⟩ := hT.info
    obtain ⟨b, m, c, o, rfl, hnc, rfl, hmo⟩ := hu
    have hdr' : rest = [] ∨ (dr = true → C.lo = true) := by
      cases dr with
      | true =>
        simp only [Bool.not_true, Bool.false_or, Bool.or_eq_true, List.isEmpty_iff] at hdr
        exact hdr.imp id (fun h _ => h)
      | false => right; intro e; cases e
    by_cases hmn : n ≤ m
    · have hr : (execOp a.eval ⟨none, .call ⟨.builtin .clear, #[x], #[T]⟩, ty, pos, af, none⟩).run C.P w = .ok (.value (.tuple #[])) w := by
        simp only [execOp, resolve, Sem.run_bind, Sem.run_pure, Result.andThen_ok, invoke, builtin, List.map_toArray, List.map_cons, List.map_nil, hf.ev hx]
        simp [Builtin.clear_, run_underlying hT.u, Nat.sub_eq_zero_of_le hmn]
      unfold Oper.wp
      rw [hr]
      have hA := (hs.own H (hF.u H).mem)
      refine ⟨ims, F H, _, hdr'.imp id (fun h e u hu => hu.wlo (h e)), hf.putNone, hs.upd (u := ⟨hF.u H⟩) (Nat.le_refl _) (fun _ _ _ => rfl) hA.1 (fun b hb => .inl hb) (Io.refl _), h H hv (fun B hB => hB)⟩
    · obtain ⟨cs, ⟨hcl, hn1, ho⟩, hR⟩ := hv
      have hmo := hmo (by omega)
      subst hmo
      rcases ho with ⟨_, e0, hn, rfl⟩ | ⟨b', c', cur, e0, h2, h3, h4, h5, rfl⟩
      · injection e0 with e1 e2 e3; omega
      · simp only [Value.slice.injEq, Option.some.injEq, Addr.mk.injEq, and_true] at e0
        obtain ⟨rfl, rfl, rfl⟩ := e0
        have hA := (hs.own _ (hF.u (sing b (.cells cur E (0, 0)))).mem).1 b _ (sing_self _ _)
        have hzl : (Builtin.zeroCells z.cells (n - xs.length)).toList.length = (n - xs.length) * k := by rw [Array.length_toList, size_zeroCells, hT.z]
        have hsub : (n - xs.length) * k = n * k - xs.length * k := Nat.sub_mul _ _ _
        have hnk : n * k ≤ c * k := Nat.mul_le_mul_right _ hnc
        have hlk : xs.length * k ≤ n * k := Nat.mul_le_mul_right _ (by omega)
        have hone : ∀ u ∈ (Builtin.zeroCells z.cells (n - xs.length)).toList, u.oneCell' = true := fun u hu => by
          simp only [Builtin.zeroCells, Array.toList_map, List.mem_map] at hu
          obtain ⟨q, _, rfl⟩ := hu
          have hkp : 0 < z.cells.size := by rw [hT.z]; exact hT.p
          have hm := Nat.mod_lt q hkp
          rw [getElem!_pos z.cells _ hm]
          exact List.all_eq_true.1 hz1 _ (by rw [← Array.getElem_toList]; exact List.getElem_mem _)
        have hst := run_storeCells_at C.P b (xs.length * k) E (Builtin.zeroCells z.cells (n - xs.length)).toList 0 cur w hA (by rw [hzl]; omega) hone
        simp only [Nat.add_zero] at hst
        have hr : (execOp a.eval ⟨none, .call ⟨.builtin .clear, #[x], #[T]⟩, ty, pos, af, none⟩).run C.P w = .ok (.value (.tuple #[])) (w.setRow b (cur.toList.take (xs.length * k) ++ (Builtin.zeroCells z.cells (n - xs.length)).toList ++ cur.toList.drop (xs.length * k + (Builtin.zeroCells z.cells (n - xs.length)).toList.length)).toArray) := by
          simp only [execOp, resolve, Sem.run_bind, Sem.run_pure, Result.andThen_ok, invoke, builtin, List.map_toArray, List.map_cons, List.map_nil, hf.ev hx]
          obtain ⟨q, hq⟩ : ∃ q, n - xs.length = q + 1 := ⟨n - xs.length - 1, by omega⟩
          rw [hq] at hst ⊢
          simp [Builtin.clear_, run_underlying hT.u, zeroValue, typeInfo, hinfo, hz, hst]
        unfold Oper.wp
        rw [hr]
        have hszc : cur.toList.length = cur.size := by simp
        refine ⟨ims, F (sing b (.cells (cur.toList.take (xs.length * k) ++ (Builtin.zeroCells z.cells (n - xs.length)).toList ++ cur.toList.drop (xs.length * k + (Builtin.zeroCells z.cells (n - xs.length)).toList.length)).toArray E (0, 0))), _, hdr'.imp id (fun h e u hu => hu.wlo (h e)), hf.putNone, hs.upd (u := ⟨hF.u _⟩) (by simp) (fun b' _ hn => ?_) (fun b' o' hb' => ?_) (fun b' hb' => .inl ?_) ⟨rfl, rfl⟩,
          h _ ⟨cs, ⟨hcl, hn1, .inr ⟨b, c, _, rfl, h2, h3, ?_, ?_, rfl⟩⟩, hR⟩ (fun B hB => ⟨fun b' hb' => hB.1 b' ?_, liq_sing⟩)⟩
        · have hne : b' ≠ b := fun e => by subst e; simp at hn
          exact setRow_other w b b' _ hne
        · obtain ⟨rfl, rfl⟩ := sing_some hb'
          exact setRow_heap w _ cur _ E _ hA
        · by_cases e : b' = b
          · subst e; simp
          · simp [sing, e] at hb'
        · simp only [List.size_toArray, List.length_append, List.length_take, List.length_drop, Array.length_toList]; omega
        · simp only []
          have e1 : cur.toList.take (xs.length * k) = cs := h5
          rw [e1, List.append_assoc, ← hcl]; exact List.take_left
        · by_cases e : b' = b
          · subst e; simp
          · simp [sing, e] at hb'
/-- An empty literal slice of elements of k cells. -/
theorem kl_bs0k (R : Rel A) {ps : List (Nat × Operand)} [hT : IsSlice C.P T E k by' z] (hp : evp G ps = some [])
    (h : ∀ v H, Fr C.B H → OwnL E k H K R v [] → KL C dr ops Q ims (H :: L) fl.tail rest ((d, v) :: G)) (hlt : Nat.blt d C.n = true := by rfl) (hfl : fl.headD false = false := by rfl) :
    KL C dr ops Q ims L fl (⟨some d, .buildSlice T 0 ps.toArray, ty, pos, af, none⟩ :: rest) G := by
  refine kl_new (v := fun b => .slice (some ⟨b, 0, none⟩) 0 0) (o := .cells #[] E) (fun r w hr => ?_) (fun b hb => h _ _ (fr_sing hb) ⟨[], ⟨by simp, by simp, .inr ⟨b, 0, #[], rfl, Nat.le_refl _, by simp [maxLen], by simp, by simp, rfl⟩⟩, fun i hi => absurd hi (Nat.not_lt_zero i)⟩) hlt hfl
  have hps := evp_run hr hp
  have key : (Instr.buildSlice T 0 ([] : List (Nat × Value)).toArray).run C.P w = .ok (.slice (some ⟨w.heap.size, 0, none⟩) 0 0) (w.alloc (.cells #[] E)) := by
    simp [Instr.buildSlice, run_underlying hT.u, sizeOf_run hT.size, Instr.fill, newRow, Array.range]
    refine congrArg (fun x => w.alloc (.cells x E)) ?_
    apply Array.eq_empty_of_size_eq_zero; simp
  simp only [execOp, Sem.run_bind, List.map_toArray, hps, key, Result.andThen_ok, Sem.run_pure]
end ops
end Go.Proofs.Ytiilanckbocifaa
