/- The laws of append and of slices that are written out. Conditions: none. -/
import Derived.Test.YtcdemjjgmnbkfaaOwn
namespace Go.Proofs.Ytcdemjjgmnbkfaa
open Go
set_option linter.unusedSimpArgs false
set_option linter.unusedVariables false

/-- x reads as m elements, k cells each, the cells news. -/
def Rd (H : Hp) (k : Nat) (x : Value) (m : Nat) (news : List Value) : Prop :=
  ∃ a c, x = .slice a m c ∧ news.length = m * k ∧ ∀ j u, news[j]? = some u → ∃ b o cs T fz, a = some ⟨b, o, none⟩ ∧ H b = some (.cells cs T fz) ∧ cs[o + j]? = some u

def evp (G : Env) : List (Nat × Operand) → Option (List (Nat × Value))
  | [] => some []
  | (i, x) :: r => match ev G x, evp G r with
    | some v, some vs => some ((i, v) :: vs)
    | _, _ => none
theorem evp_run {G : Env} {r : Operand → Value} (hr : Ev G r) : ∀ {ps : List (Nat × Operand)} {vs : List (Nat × Value)}, evp G ps = some vs → ps.map (fun p => (p.1, r p.2)) = vs
  | [], vs, h => by simp [evp] at h; simp [h]
  | (i, x) :: t, vs, h => by
    simp only [evp] at h
    split at h
    · rename_i v ws h1 h2
      simp at h; subst h
      simp [hr _ _ h1, evp_run hr h2]
    · cases h

def enumV : Nat → List Value → List (Nat × Value)
  | _, [] => []
  | i, u :: r => (i, u) :: enumV (i + 1) r
theorem fill_one : ∀ (us : List Value) (i : Nat) (cells : Array Value), (∀ u ∈ us, u.cells = #[u]) → i + us.length ≤ cells.size →
    Instr.fill (fun i => some (i * 1, 1)) cells (enumV i us) = some (cells.toList.take i ++ us ++ cells.toList.drop (i + us.length)).toArray
  | [], i, cells, _, _ => by simp [enumV, Instr.fill]
  | u :: r, i, cells, h, hl => by
    have hu := h u (.head _)
    simp only [List.length_cons] at hl
    have ih := fill_one r (i + 1) (cells.setIfInBounds i u) (fun x hx => h x (.tail _ hx)) (by simp; omega)
    have hz : (#[u] : Array Value).zipIdx = #[(u, 0)] := by simp
    simp only [enumV, Instr.fill, hu, Nat.mul_one]
    rw [if_neg (by simp; omega), hz]
    simp only [Nat.mul_one] at ih
    simp only [List.foldl_toArray', List.foldl_cons, List.foldl_nil, Nat.add_zero, List.size_toArray, List.length_cons, List.length_nil]
    rw [ih]
    simp only [Array.toList_setIfInBounds, Option.some.injEq]
    congr 1
    apply List.ext_getElem?
    intro j
    simp only [List.getElem?_append, List.getElem?_take, List.getElem?_drop, List.length_append, List.length_take, List.length_set, List.length_cons, List.getElem?_set, List.getElem?_cons]
    have hc : cells.toList.length = cells.size := by simp
    have e1 : min (i + 1) cells.toList.length = i + 1 := by omega
    have e2 : min i cells.toList.length = i := by omega
    simp only [e1, e2]
    by_cases h1 : j < i
    · rw [if_pos (by omega), if_pos (by omega), if_pos (by omega), if_neg (by omega), if_pos (by omega), if_pos h1, if_pos h1]
    · by_cases h2 : j = i
      · subst h2
        rw [if_pos (by omega), if_pos (by omega), if_pos (by omega), if_pos rfl, if_pos (by omega), if_pos (by omega), if_neg (by omega), if_pos (by omega)]
      · by_cases h3 : j < i + 1 + r.length
        · rw [if_pos (by omega), if_neg (by omega), if_pos (by omega), if_neg (by omega), if_neg (by omega)]
          first | rfl | (congr 1; omega)
        · rw [if_neg (by omega), if_neg (by omega), if_neg (by omega)]
          first | rfl | (congr 1; omega)

section ops
variable {C : Cx} {dr : Bool} {ops : Array Oper} {Q : Post} {ims L : List Hp} {G : Env} {fl : List Bool} {rest : List Oper}
  {d ty : Nat} {pos : String} {af : Array Edge}

/-- A slice that is written out, one cell an element: fixed memory. -/
theorem kl_bs {T E by' n : Nat} {z : Value} [hT : IsSlice C.P T E 1 by' z] {ps : List (Nat × Operand)} {pv : List (Nat × Value)} {us : List Value}
    (hp : evp G ps = some pv) (he : pv = enumV 0 us) (hn : Nat.beq us.length n = true) (hm : n ≤ 1000) (hu : ∀ u ∈ us, u.cells = #[u])
    (h : ∀ v H, Fr C.B H → Rd H 1 v n us → Sl H 1 (fun cs u => cs = [u]) v us → KL C dr ops Q (H :: ims) L fl.tail rest ((d, v) :: G)) (hlt : Nat.blt d C.n = true := by rfl) (hfl : fl.headD false = false := by rfl) :
    KL C dr ops Q ims L fl (⟨some d, .buildSlice T n ps.toArray, ty, pos, af, none⟩ :: rest) G := by
  have hn := Nat.eq_of_beq_eq_true hn
  subst hn he
  refine kl_newI (v := fun b => .slice (some ⟨b, 0, none⟩) us.length us.length) (o := .cells us.toArray E) (fun r w hr => ?_) (fun b hb => h _ _ (fr_sing hb) ?_ ?_) hlt hfl
  · have hps := evp_run hr hp
    have hz := hT.z
    have hzv : (zeroValue E).run C.P w = .ok z w := zeroValue_run (by obtain ⟨i, hi, hz', _⟩ := hT.info; simp [hi, hz']) w
    have key : (Instr.buildSlice T us.length (enumV 0 us).toArray).run C.P w = .ok (.slice (some ⟨w.heap.size, 0, none⟩) us.length us.length) (w.alloc (.cells us.toArray E)) := by
      by_cases h0 : us.length = 0
      · have : us = [] := List.eq_nil_of_length_eq_zero h0
        subst this
        simp [Instr.buildSlice, run_underlying hT.u, sizeOf_run hT.size, enumV, Instr.fill, newRow, Array.range]
      · have hnn : us.length * 1 ≠ 0 := by omega
        have hff := fill_one us 0 ((Array.range (us.length * 1)).map (z.cells[· % z.cells.size]!)) hu (by simp)
        simp only [List.take_zero, List.nil_append, Nat.zero_add] at hff
        have hdrop : ((Array.range (us.length * 1)).map (z.cells[· % z.cells.size]!)).toList.drop us.length = [] := by simp
        rw [hdrop, List.append_nil] at hff
        have h24 : ¬ (16777216 < us.length) := by omega
        simp only [Instr.buildSlice, Sem.run_bind, run_underlying hT.u, Result.andThen_ok, sizeOf_run hT.size]
        simp [h24, h0, hzv]
        have hff' : Instr.fill (fun i => some (i, 1)) (Array.map (fun x => z.cells[x % z.cells.size]!) (Array.range us.length)) (enumV 0 us) = some us.toArray := by simpa using hff
        first | simp [hff', newRow] | (simp at hff'; simp [hff', newRow])
    simp only [execOp, Sem.run_bind, List.map_toArray, hps, key, Result.andThen_ok, Sem.run_pure]
  · exact ⟨some ⟨b, 0, none⟩, us.length, rfl, by simp, fun j u hj => ⟨b, 0, us.toArray, E, (0, 0), rfl, by simp, by simpa using hj⟩⟩
  · refine ⟨some ⟨b, 0, none⟩, us.length, rfl, Nat.le_refl _, by omega, fun i hi => ⟨b, 0, rfl, [us[i]], rfl, rfl, b, 0 + i * 1, us.toArray, E, (0, 0), rfl, by simp, fun j u hj => ?_⟩⟩
    cases j with
    | zero => simpa [hi] using hj
    | succ j => simp at hj

/-- A slice that is written out, one cell an element: owned memory. -/
theorem kl_bsO {T E by' n : Nat} {z : Value} [hT : IsSlice C.P T E 1 by' z] {ps : List (Nat × Operand)} {pv : List (Nat × Value)} {us : List Value}
    (hp : evp G ps = some pv) (he : pv = enumV 0 us) (hn : Nat.beq us.length n = true) (hm : n ≤ 1000) (hu : ∀ u ∈ us, u.cells = #[u])
    (h : ∀ v H, Fr C.B H → OwnS E 1 H v n us → KL C dr ops Q ims (H :: L) fl.tail rest ((d, v) :: G)) (hlt : Nat.blt d C.n = true := by rfl) (hfl : fl.headD false = false := by rfl) :
    KL C dr ops Q ims L fl (⟨some d, .buildSlice T n ps.toArray, ty, pos, af, none⟩ :: rest) G := by
  have hn := Nat.eq_of_beq_eq_true hn
  subst hn he
  refine kl_new (v := fun b => .slice (some ⟨b, 0, none⟩) us.length us.length) (o := .cells us.toArray E) (fun r w hr => ?_) (fun b hb => h _ _ (fr_sing hb) ?_) hlt hfl
  · have hps := evp_run hr hp
    have hz := hT.z
    have hzv : (zeroValue E).run C.P w = .ok z w := zeroValue_run (by obtain ⟨i, hi, hz', _⟩ := hT.info; simp [hi, hz']) w
    have key : (Instr.buildSlice T us.length (enumV 0 us).toArray).run C.P w = .ok (.slice (some ⟨w.heap.size, 0, none⟩) us.length us.length) (w.alloc (.cells us.toArray E)) := by
      by_cases h0 : us.length = 0
      · have : us = [] := List.eq_nil_of_length_eq_zero h0
        subst this
        simp [Instr.buildSlice, run_underlying hT.u, sizeOf_run hT.size, enumV, Instr.fill, newRow, Array.range]
      · have hnn : us.length * 1 ≠ 0 := by omega
        have hff := fill_one us 0 ((Array.range (us.length * 1)).map (z.cells[· % z.cells.size]!)) hu (by simp)
        simp only [List.take_zero, List.nil_append, Nat.zero_add] at hff
        have hdrop : ((Array.range (us.length * 1)).map (z.cells[· % z.cells.size]!)).toList.drop us.length = [] := by simp
        rw [hdrop, List.append_nil] at hff
        have h24 : ¬ (16777216 < us.length) := by omega
        simp only [Instr.buildSlice, Sem.run_bind, run_underlying hT.u, Result.andThen_ok, sizeOf_run hT.size]
        simp [h24, h0, hzv]
        have hff' : Instr.fill (fun i => some (i, 1)) (Array.map (fun x => z.cells[x % z.cells.size]!) (Array.range us.length)) (enumV 0 us) = some us.toArray := by simpa using hff
        first | simp [hff', newRow] | (simp at hff'; simp [hff', newRow])
    simp only [execOp, Sem.run_bind, List.map_toArray, hps, key, Result.andThen_ok, Sem.run_pure]
  · exact ⟨by simp, by omega, .inr ⟨b, us.length, us.toArray, rfl, Nat.le_refl _, by simp only [maxLen]; omega, by simp, by simp, rfl⟩⟩

/-- An append to a slice that is owned. -/
theorem kl_app {x y : Operand} {T E k by' n m : Nat} {z : Value} [hT : IsSlice C.P T E k by' z] {H K : Hp} {v u : Value} {cs news : List Value} {F : Hp → List Hp} [hF : UpdF H L F] [hi : In K ims]
    (hx : ev G x = some v) (hy : ev G y = some u) (hv : OwnS E k H v n cs) (hu : Rd K k u m news) (h1 : ∀ x ∈ news, x.oneCell' = true) (hb : n + m ≤ 1073741824) (hby : by' ≤ 1024)
    (h : ∀ v' H', OwnS E k H' v' (n + m) (cs ++ news) → (∀ B : World, Fr B H → B.heap.size ≤ C.B.heap.size → Fr B H') → KL C dr ops Q ims (F H') fl.tail rest ((d, v') :: G)) (hlt : Nat.blt d C.n = true := by rfl) (hfl : fl.headD false = false := by rfl) (hdr : (!dr || rest.isEmpty || C.lo) = true := by rfl) :
    KL C dr ops Q ims L fl (⟨some d, .call ⟨.builtin .append, #[x, y], #[T, T]⟩, ty, pos, af, none⟩ :: rest) G :=
  kl_act rfl hfl fun a w hf hs => by
    obtain ⟨i, hinfo, hz, hk, hbb⟩ := hT.info
    obtain ⟨a2, c2, rfl, hl2, hc2⟩ := hu
    have hown := hs.own H (hF.u H).mem
    have hK := hs.im K hi.mem
    have hmem : ∀ H', (OwnS E k H' = OwnS E k H') := fun _ => rfl
    have hnb : (n + m) * i.bytes ≤ 140737488355328 := by
      rw [hbb]
      calc (n + m) * by' ≤ 1073741824 * 1024 := Nat.mul_le_mul hb hby
        _ ≤ 140737488355328 := by decide
    have hdr' : rest = [] ∨ (dr = true → C.lo = true) := by
      cases dr with
      | true =>
        simp only [Bool.not_true, Bool.false_or, Bool.or_eq_true, List.isEmpty_iff] at hdr
        exact hdr.imp id (fun h _ => h)
      | false => right; intro e; cases e
    -- what is done once the run is known
    have fin : ∀ (v' : Value) (w' : World) (H' : Hp), (Builtin.append_ #[T, T] ty #[v, .slice a2 m c2]).run C.P w = .ok v' w' → OwnS E k H' v' (n + m) (cs ++ news) →
        (∀ b, H' b ≠ none → H b ≠ none ∨ w.heap.size ≤ b) → w.heap.size ≤ w'.heap.size → (∀ b, b < w.heap.size → H b = none → w'.heap[b]? = w.heap[b]?) → Agree H' w' → Io w w' → (Liq H → Liq H') →
        Oper.wp C.P ⟨some d, .call ⟨.builtin .append, #[x, y], #[T, T]⟩, ty, pos, af, none⟩ a w (fun a' w' => ∃ ims2 L2 G2, (rest = [] ∨ (dr = true → ∀ u, St C.B C.X ims2 (C.W L2) u → St C.B C.X ims (C.W L) u)) ∧
          Fit C.m G2 a' ∧ St C.B C.X ims2 L2 w' ∧ KL C dr ops Q ims2 L2 fl.tail rest G2) (fun _ _ _ => False) := fun v' w' H' hrun ho hd hsz he hA hio hlq => by
      have hr : (execOp a.eval ⟨some d, .call ⟨.builtin .append, #[x, y], #[T, T]⟩, ty, pos, af, none⟩).run C.P w = .ok (.value v') w' := by
        simp only [execOp, resolve, Sem.run_bind, Sem.run_pure, Result.andThen_ok, invoke, builtin, List.map_toArray, List.map_cons, List.map_nil, hf.ev hx, hf.ev hy, hrun]
      unfold Oper.wp
      rw [hr]
      refine ⟨ims, F H', _, hdr'.imp id (fun h e u hu => hu.wlo (h e)), hf.put (by simpa [Nat.blt_eq, Cx.m] using hlt), hs.upd (u := ⟨hF.u H'⟩) hsz he hA hd hio, h v' H' ho (fun B hB hBB => ⟨fun b hb => ?_, hlq hB.2⟩)⟩
      rcases hd b hb with h' | h'
      · exact hB.1 b h'
      · exact Nat.le_trans hBB (Nat.le_trans hs.size h')
    have grown : ∀ (w0 : World) (old : Nat), w0.heap = w.heap → old < n + m → ∀ c, n + m ≤ c → c ≤ maxLen →
        OwnS E k (sing w.heap.size (.cells (cs.toArray ++ news.toArray ++ Builtin.zeroCells z.cells (c - (n + m))) E (0, 0))) (.slice (some ⟨w.heap.size, 0, none⟩) (n + m) c) (n + m) (cs ++ news) := by
      intro w0 old _ _ c hc hcm
      have hlen : (cs ++ news).length = (n + m) * k := by rw [List.length_append, hv.1, hl2, Nat.add_mul]
      refine ⟨hlen, by omega, .inr ⟨_, c, _, rfl, hc, hcm, ?_, ?_, rfl⟩⟩
      · simp only [Array.size_append, List.size_toArray, size_zeroCells, hT.z]
        have : cs.length + news.length = (n + m) * k := by rw [← hlen, List.length_append]
        rw [this, ← Nat.add_mul]
        refine Nat.le_of_eq ?_
        congr 1; omega
      · simp only [Array.toList_append, List.append_assoc]
        rw [← List.append_assoc, ← hlen]
        exact List.take_left
    by_cases hm0 : m = 0
    · subst hm0
      have hnw : news = [] := List.eq_nil_of_length_eq_zero (by simpa using hl2)
      subst hnw
      refine fin v w H ?_ (by simpa using hv) (fun b hb => .inl hb) (Nat.le_refl _) (fun _ _ _ => rfl) hown.1 (Io.refl _) (fun h => h)
      rcases hv.2.2 with ⟨a0, rfl, rfl, _⟩ | ⟨b, c, cur, rfl, h2, _⟩
      · cases a0 <;> cases a2 <;> simp [Builtin.append_, run_underlying hT.u, Go.sizeOf, typeInfo, hinfo, Builtin.lenOf, Builtin.firstCells, loadCells, loadCellsFrom, storeCells]
      · cases a2 <;> simp [Builtin.append_, run_underlying hT.u, Go.sizeOf, typeInfo, hinfo, Builtin.lenOf, Builtin.firstCells, loadCells, loadCellsFrom, storeCells, h2]
    · have hKd : ∀ w' : World, w'.heap = w.heap → ∀ b o, K b = some o → w'.heap[b]? = some o := fun w' e b o hb => by rw [e]; exact hK b o hb
      have hm : 0 < m := Nat.pos_of_ne_zero hm0
      have hlp : 0 < news.length := by rw [hl2]; exact Nat.mul_pos hm hT.p
      obtain ⟨b2, o2, _, _, _, ha2, _⟩ := hc2 0 _ (List.getElem?_eq_getElem hlp)
      subst ha2
      have hnews : ∀ (w : World), (∀ b o, K b = some o → w.heap[b]? = some o) → ∀ j u, news[j]? = some u → w.cell? ((⟨b2, o2, none⟩ : Addr).add j) = some u := fun w hw j u hj => by
        obtain ⟨b3, o3, cs', T', fz, e3, h1, h2⟩ := hc2 j u hj
        simp only [Option.some.injEq, Addr.mk.injEq, and_true] at e3
        obtain ⟨rfl, rfl⟩ := e3
        rw [Addr.add_lit]
        simp [World.cell?, hw _ _ h1, h2]
      rcases hv.2.2 with ⟨a0, rfl, rfl, rfl⟩ | ⟨b, c, cur, rfl, h2, h3, h4, h5, rfl⟩
      · have hcs : cs = [] := List.eq_nil_of_length_eq_zero (by simpa using hv.1)
        subst hcs
        have hrun : (Builtin.append_ #[T, T] ty #[.slice a0 0 0, .slice (some ⟨b2, o2, none⟩) m c2]).run C.P w =
            .ok (.slice (some ⟨w.heap.size, 0, none⟩) m (grownCap w m 0 E)) (w.drew.alloc (.cells (news.toArray ++ Builtin.zeroCells z.cells (grownCap w m 0 E - m)) E)) := by
          cases a0 with
          | none => exact run_append_nil (P := C.P) w T ty E i z hT.u hinfo hz ⟨b2, o2, none⟩ m c2 news (by rw [hk]; exact hl2) (hnews w (hKd w rfl)) hm (by omega) (by simp only [Nat.zero_add] at hnb; omega)
          | some a0 =>
            have := run_append_grow (P := C.P) w T ty E i z hT.u hinfo hz a0 0 0 [] (by simp) (by simp) ⟨b2, o2, none⟩ m c2 news (by rw [hk]; exact hl2) (hnews w (hKd w rfl)) (by omega) (by omega) (by
              simp only [Nat.zero_add] at hnb ⊢; rw [nextslicecap_zero hm]; omega)
            simpa using this
        have hge := grownCap_ge w m 0 E
        have hle := grownCap_le_maxLen w m 0 E (by simp only [maxLen]; omega)
        have hg := grown w 0 rfl (by omega) (grownCap w m 0 E) (by simpa using hge) hle
        simp only [Nat.zero_add, List.nil_append] at hg ⊢
        refine fin _ _ _ hrun (by simpa using hg) (fun b' hb' => .inr ?_) (by simp) (fun b' hb' _ => heap_alloc_old w.drew _ hb') ?_ ⟨rfl, rfl⟩ (fun _ => liq_sing)
        · by_cases e : b' = w.heap.size
          · omega
          · simp [sing, e] at hb'
        · have := agree_alloc w.drew (.cells (news.toArray ++ Builtin.zeroCells z.cells (grownCap w m 0 E - m)) E)
          simpa using this
      · by_cases hroom : n + m ≤ c
        · have hA := hown.1 b _ (sing_self _ _)
          have hrun := run_append_room (P := C.P) w T ty E i hT.u hinfo b n c cur hA ⟨b2, o2, none⟩ m c2 news (by rw [hk]; exact hl2) (hnews w (hKd w rfl)) h1 hroom (by
            rw [hk, hl2, ← Nat.add_mul]; exact Nat.le_trans (Nat.mul_le_mul_right _ hroom) h4)
          rw [hk] at hrun
          refine fin _ _ (sing b (.cells (cur.toList.take (n * k) ++ news ++ cur.toList.drop (n * k + news.length)).toArray E (0, 0))) hrun ⟨by rw [List.length_append, hv.1, hl2, Nat.add_mul], by omega, .inr ⟨b, c, _, rfl, hroom, h3, ?_, ?_, rfl⟩⟩ (fun b' hb' => .inl ?_) (by simp) (fun b' _ hn => ?_) (fun b' o' hb' => ?_) ⟨rfl, rfl⟩ (fun _ => liq_sing)
          · have : n * k + m * k ≤ cur.size := by rw [← Nat.add_mul]; exact Nat.le_trans (Nat.mul_le_mul_right _ hroom) h4
            refine Nat.le_trans h4 ?_
            simp only [List.size_toArray, List.length_append, List.length_take, List.length_drop, Array.length_toList, hl2]
            omega
          · have hlen : (cs ++ news).length = (n + m) * k := by rw [List.length_append, hv.1, hl2, Nat.add_mul]
            simp only []
            rw [h5, ← hlen]
            exact List.take_left
          · by_cases e : b' = b
            · subst e; simp
            · simp [sing, e] at hb'
          · have hne : b' ≠ b := fun e => by subst e; simp at hn
            exact setRow_other w b b' _ hne
          · obtain ⟨rfl, rfl⟩ := sing_some hb'
            exact setRow_heap w _ cur _ E _ hA
        · have hA := hown.1 b _ (sing_self _ _)
          have holds : ∀ j u, cs[j]? = some u → w.cell? ((⟨b, 0, none⟩ : Addr).add j) = some u := fun j u hj => by
            rw [Addr.add_lit]
            rw [← h5, List.getElem?_take] at hj
            split at hj
            · simp [World.cell?, hA]; simpa using hj
            · cases hj
          have hrun := run_append_grow (P := C.P) w T ty E i z hT.u hinfo hz ⟨b, 0, none⟩ n c cs (by rw [hk]; exact hv.1) holds ⟨b2, o2, none⟩ m c2 news (by rw [hk]; exact hl2) (hnews w (hKd w rfl)) (by omega) (by omega) (growslice_fits (by omega) hnb)
          have hge := grownCap_ge w (n + m) c E
          have hle := grownCap_le_maxLen w (n + m) c E (by simp only [maxLen]; omega)
          have hg := grown w c rfl (by omega) (grownCap w (n + m) c E) hge hle
          refine fin _ _ _ hrun hg (fun b' hb' => .inr ?_) (by simp) (fun b' hb' _ => heap_alloc_old w.drew _ hb') ?_ ⟨rfl, rfl⟩ (fun _ => liq_sing)
          · by_cases e : b' = w.heap.size
            · omega
            · simp [sing, e] at hb'
          · exact agree_alloc w.drew _
end ops

/-- What a slice holds, as one row of cells. -/
theorem Sl.rd {A : Type} {H : Hp} {k : Nat} {R : List Value → A → Prop} {v : Value} {xs : List A} (h : Sl H k R v xs) :
    ∃ news, Rd H k v xs.length news ∧ ∀ i (hi : i < xs.length), R ((news.drop (i * k)).take k) xs[i] := by
  obtain ⟨a, c, rfl, hc, hb, he⟩ := h
  by_cases h0 : xs.length = 0
  · exact ⟨[], ⟨a, c, rfl, by simp [h0], fun j u hj => by simp at hj⟩, fun i hi => by omega⟩
  · obtain ⟨b, o, rfl, vs0, hl0, _, hat0⟩ := he 0 (by omega)
    obtain ⟨b', o', cs, T, fz, hp, hb', _⟩ := hat0
    simp only [Value.pointer.injEq, Option.some.injEq, Addr.mk.injEq, and_true] at hp
    obtain ⟨rfl, rfl⟩ := hp
    have each : ∀ i (hi : i < xs.length), ∃ vs : List Value, vs.length = k ∧ R vs xs[i] ∧ ∀ t, t < k → vs[t]? = cs[o + (i * k + t)]? ∧ cs[o + (i * k + t)]? ≠ none := fun i hi => by
      obtain ⟨b1, o1, e1, vs, hl, hr, b2, o2, cs2, T2, fz2, hp, hb2, hcs⟩ := he i hi
      simp only [Option.some.injEq, Addr.mk.injEq, and_true] at e1
      obtain ⟨rfl, rfl⟩ := e1
      simp only [Value.pointer.injEq, Option.some.injEq, Addr.mk.injEq, and_true] at hp
      obtain ⟨rfl, rfl⟩ := hp
      rw [hb'] at hb2
      cases hb2
      refine ⟨vs, hl, hr, fun t ht => ?_⟩
      have := hcs t _ (List.getElem?_eq_getElem (by omega))
      rw [Nat.add_assoc] at this
      rw [List.getElem?_eq_getElem (by omega), this]
      exact ⟨rfl, by simp⟩
    refine ⟨(List.range (xs.length * k)).map (fun j => cs.getD (o + j) undef), ⟨some ⟨b, o, none⟩, c, rfl, by simp, fun j u hj => ⟨b, o, cs, T, fz, rfl, hb', ?_⟩⟩, fun i hi => ?_⟩
    · have hj' : j < xs.length * k := by have := (List.getElem?_eq_some_iff.1 hj).1; simpa using this
      have hk : 0 < k := Nat.pos_of_ne_zero fun e => by subst e; simp at hj'
      have hi : j / k < xs.length := (Nat.div_lt_iff_lt_mul hk).2 hj'
      obtain ⟨vs, _, _, hcs⟩ := each (j / k) hi
      have h2 := (hcs (j % k) (Nat.mod_lt _ hk)).2
      have e : j / k * k + j % k = j := by rw [Nat.mul_comm]; exact Nat.div_add_mod j k
      rw [e] at h2
      rw [List.getElem?_map, List.getElem?_range hj'] at hj
      simp only [Option.map_some, Option.some.injEq] at hj
      subst hj
      cases hg : cs[o + j]? with
      | none => exact absurd hg h2
      | some x => simp [Array.getD, (Array.getElem?_eq_some_iff.1 hg).1, (Array.getElem?_eq_some_iff.1 hg).2]
    · obtain ⟨vs, hl, hr, hcs⟩ := each i hi
      have hik : (i + 1) * k ≤ xs.length * k := Nat.mul_le_mul_right _ hi
      rw [Nat.add_mul] at hik
      have : (((List.range (xs.length * k)).map (fun j => cs.getD (o + j) undef)).drop (i * k)).take k = vs := by
        apply List.ext_getElem?
        intro t
        by_cases ht : t < k
        · rw [List.getElem?_take, if_pos ht, List.getElem?_drop, List.getElem?_map, List.getElem?_range (by omega), (hcs t ht).1]
          cases hg : cs[o + (i * k + t)]? with
          | none => exact absurd hg (hcs t ht).2
          | some x => simp [Array.getD, (Array.getElem?_eq_some_iff.1 hg).1, (Array.getElem?_eq_some_iff.1 hg).2]
        · rw [List.getElem?_eq_none (by simp; omega), List.getElem?_eq_none (by omega)]
      rw [this]; exact hr
end Go.Proofs.Ytcdemjjgmnbkfaa
