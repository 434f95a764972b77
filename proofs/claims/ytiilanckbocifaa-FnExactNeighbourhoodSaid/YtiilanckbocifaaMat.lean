/- Lists of rows, each row in a block of its own: what is owned to the bottom. Conditions: none. -/
import Derived.Test.YtiilanckbocifaaCut
import Derived.Test.YtiilanckbocifaaMut
import Derived.Test.YtiilanckbocifaaSol
namespace Go.Proofs.Ytiilanckbocifaa
open Go
set_option linter.unusedSimpArgs false
set_option linter.unusedVariables false
class Enc {A : Type} (enc : A → Value) : Prop where
  one : ∀ a, (enc a).oneCell' = true
  cells : ∀ a, (enc a).cells = [enc a].toArray
def encB (b : Bool) : Value := .bool b
def encI (n : Int) : Value := .int .i64 n
instance : Enc encB := ⟨fun _ => rfl, fun _ => rfl⟩
instance : Enc encI := ⟨fun _ => rfl, fun _ => rfl⟩
/-- u is a row that lies in the block b of K, from its head on. -/
def BlkR {A : Type} (E : Nat) (enc : A → Value) (K : Hp) (b : Nat) (xs : List A) (u : Value) : Prop :=
  ∃ c cur, u = .slice (some ⟨b, 0, none⟩) xs.length c ∧ xs.length ≤ c ∧ c ≤ maxLen ∧ c ≤ cur.size ∧ xs.length ≤ 140737488355328 ∧ cur.toList.take xs.length = xs.map enc ∧ K b = some (.cells cur E (0, 0))
/-- v, whose cells H holds, is a list of rows (their slices: us), each in a block of its own in K. -/
structure Mat {A : Type} (EH E : Nat) (enc : A → Value) (H K : Hp) (v : Value) (us : List Value) (xss : List (List A)) : Prop where
  hd : OwnS EH 1 H v xss.length us
  bs : ∃ bs : List Nat, bs.length = xss.length ∧ bs.Nodup ∧ ∀ i, i < xss.length → BlkR E enc K (bs.getD i 0) (xss.getD i []) (us.getD i undef)
  lq : Liq K
variable {A : Type} {enc : A → Value}
theorem Mat.ulen {EH E : Nat} {H K : Hp} {v : Value} {us : List Value} {xss : List (List A)} (h : Mat EH E enc H K v us xss) : us.length = xss.length := by have := h.hd.1; omega
theorem Mat.nil {EH E : Nat} {H : Hp} {v : Value} (h : OwnS EH 1 H v 0 []) : Mat EH E enc H noHp v [] [] := ⟨h, ⟨[], rfl, List.nodup_nil, fun i h => absurd h (Nat.not_lt_zero i)⟩, fun b o hb => by cases hb⟩
theorem BlkR.mono {E b : Nat} {K K' : Hp} {xs : List A} {u : Value} (h : BlkR E enc K b xs u) (hk : K' b = K b) : BlkR E enc K' b xs u := by
  obtain ⟨c, cur, h1, h2, h3, h4, h5, h6, h7⟩ := h
  exact ⟨c, cur, h1, h2, h3, h4, h5, h6, by rw [hk]; exact h7⟩
theorem blk_of {E : Nat} {K : Hp} {u : Value} {xs : List A} (h : OwnS E 1 K u xs.length (xs.map enc)) (h0 : 0 < xs.length) : ∃ b, BlkR E enc K b xs u ∧ K b ≠ none := by
  obtain ⟨h1, h2, h3⟩ := h
  rcases h3 with ⟨_, _, hn, _⟩ | ⟨b, c, cur, rfl, h4, h5, h6, h7, rfl⟩
  · omega
  · exact ⟨b, ⟨c, cur, rfl, h4, h5, by simpa using h6, h2, by simpa using h7, by simp⟩, by simp⟩
/-- A row of its own is put behind. -/
theorem Mat.push {EH E : Nat} {H H' K Hr : Hp} {v v' u : Value} {us : List Value} {xss : List (List A)} {r : List A} (h : Mat EH E enc H K v us xss) (ho : OwnS EH 1 H' v' (xss.length + 1) (us ++ [u])) (hr : OwnS E 1 Hr u r.length (r.map enc)) (h0 : 0 < r.length) (lr : Liq Hr) (ap : Apart K Hr) :
    Mat EH E enc H' (orHp K Hr) v' (us ++ [u]) (xss ++ [r]) := by
  obtain ⟨bs, h1, h2, h3⟩ := h.bs
  obtain ⟨b, hb, hbn⟩ := blk_of hr h0
  have hul := h.ulen
  have hK : ∀ q, Hr q ≠ none → K q = none := fun q hq => (ap q).resolve_right hq
  refine ⟨by simpa using ho, ⟨bs ++ [b], by simp [h1], ?_, fun i hi => ?_⟩, fun q o hq => ?_⟩
  · rw [List.nodup_append]
    refine ⟨h2, by simp, fun x hx y hy e => ?_⟩
    rw [List.mem_singleton] at hy
    subst hy e
    obtain ⟨i, hi, rfl⟩ := List.getElem_of_mem hx
    obtain ⟨c, cur, _, _, _, _, _, _, h9⟩ := h3 i (by omega)
    rw [List.getD_eq_getElem?_getD, List.getElem?_eq_getElem hi, Option.getD_some, hK _ hbn] at h9
    cases h9
  · simp only [List.length_append, List.length_singleton] at hi
    by_cases e : i < xss.length
    · have h4 := h3 i e
      have e1 : (bs ++ [b]).getD i 0 = bs.getD i 0 := by simp [List.getD, List.getElem?_append, h1, e]
      have e2 : (xss ++ [r]).getD i [] = xss.getD i [] := by simp [List.getD, List.getElem?_append, e]
      have e3 : (us ++ [u]).getD i undef = us.getD i undef := by simp [List.getD, List.getElem?_append, hul, e]
      rw [e1, e2, e3]
      obtain ⟨c, cur, q1, q2, q3, q4, q5, q6, q7⟩ := h4
      exact ⟨c, cur, q1, q2, q3, q4, q5, q6, by unfold orHp; rw [q7]; rfl⟩
    · have ei : i = xss.length := by omega
      subst ei
      have e1 : (bs ++ [b]).getD xss.length 0 = b := by simp [List.getD, List.getElem?_append, h1]
      have e2 : (xss ++ [r]).getD xss.length [] = r := by simp [List.getD, List.getElem?_append]
      have e3 : (us ++ [u]).getD xss.length undef = u := by simp [List.getD, List.getElem?_append, hul]
      rw [e1, e2, e3]
      refine hb.mono ?_
      simp [orHp, hK b hbn]
  · unfold orHp at hq
    cases e : K q with
    | none => rw [e] at hq; exact lr q o (by simpa using hq)
    | some x => rw [e] at hq; exact h.lq q o (by rw [e]; simpa using hq)
theorem enc_get {xs : List A} {cur : Array Value} {d : A} (h : cur.toList.take xs.length = xs.map enc) {j : Nat} (hj : j < xs.length) : cur[j]? = some (enc (xs.getD j d)) := by
  have h1 : (cur.toList.take xs.length)[j]? = some (enc (xs.getD j d)) := by rw [h]; simp [List.getD, hj]
  rw [List.getElem?_take, if_pos hj] at h1
  rw [← Array.getElem?_toList]; exact h1
section ops
variable {C : Cx} {dr : Bool} {ops : Array Oper} {Q : Post} {ims L : List Hp} {G : Env} {fl : List Bool} {rest : List Oper} {d ty : Nat} {pos : String} {af : Array Edge}
variable {EH E i j : Nat} {H K : Hp} {v p u : Value} {us : List Value} {xss : List (List A)} {x y : Operand} {T E' by' : Nat} {z : Value}
theorem kl_mtLen {k' : Nat} [hT : IsSlice C.P T E' k' by' z] (hx : ev G x = some v) (hM : Mat EH E enc H K v us xss) (h : xss.length ≤ 140737488355328 → KL C dr ops Q ims L fl.tail rest ((d, .int .i64 (xss.length : Int)) :: G)) (hlt : Nat.blt d C.n = true := by rfl) :
    KL C dr ops Q ims L fl (⟨some d, .call ⟨.builtin .len, #[x], #[T]⟩, ty, pos, af, none⟩ :: rest) G := kl_lenO hx hM.hd h hlt
theorem kl_mtIx {i : Nat} [hT : IsSlice C.P T E' 1 by' z] (hx : ev G x = some v) (hy : ev G y = some (.int .i64 (i : Int))) (hM : Mat EH E enc H K v us xss) (h1 : i < xss.length)
    (h : ∀ p, PtrO v p i → KL C dr ops Q ims L fl.tail rest ((d, p) :: G)) (hlt : Nat.blt d C.n = true := by rfl) :
    KL C dr ops Q ims L fl (⟨some d, .indexAddr T x y, ty, pos, af, none⟩ :: rest) G :=
  kl_ixO hx hy hM.hd (by omega) (by omega) (fun p hp => h p (by simpa using hp)) hlt
theorem kl_mtIz {i : Int} [hT : IsSlice C.P T E' 1 by' z] (hx : ev G x = some v) (hy : ev G y = some (.int .i64 i)) (hM : Mat EH E enc H K v us xss) (h0 : 0 ≤ i) (h1 : i < (xss.length : Int))
    (h : ∀ p, PtrO v p i.toNat → KL C dr ops Q ims L fl.tail rest ((d, p) :: G)) (hlt : Nat.blt d C.n = true := by rfl) :
    KL C dr ops Q ims L fl (⟨some d, .indexAddr T x y, ty, pos, af, none⟩ :: rest) G :=
  kl_ixO hx hy hM.hd h0 h1 (fun p hp => h p (by simpa using hp)) hlt
theorem mat_u (hM : Mat EH E enc H K v us xss) (hi : i < xss.length) : us[i]? = some (us.getD i undef) := by
  have := hM.ulen; simp [List.getD, show i < us.length by omega]
theorem kl_mtLd [hT : OneC C.P T] (hx : ev G x = some p) (hp : PtrO v p i) (hM : Mat EH E enc H K v us xss) [hI : In H L] (hc : i < xss.length)
    (h : KL C dr ops Q ims L fl.tail rest ((d, us.getD i undef) :: G)) (hlt : Nat.blt d C.n = true := by rfl) (hlo : C.lo = false := by rfl) : KL C dr ops Q ims L fl (⟨some d, .load T x, ty, pos, af, none⟩ :: rest) G :=
  kl_ldO hx hp hM.hd (mat_u hM hc) h hlt hlo
theorem kl_mtLde [hT : OneC C.P T] (hx : ev G x = some p) (hp : PtrO v p i) (hM : Mat EH E enc H K v us xss) [hI : In H ims] (hc : i < xss.length)
    (h : KL C dr ops Q ims L fl.tail rest ((d, us.getD i undef) :: G)) (hlt : Nat.blt d C.n = true := by rfl) : KL C dr ops Q ims L fl (⟨some d, .load T x, ty, pos, af, none⟩ :: rest) G :=
  kl_ldOe hx hp hM.hd (mat_u hM hc) h hlt
theorem kl_rwLen {k' : Nat} [hT : IsSlice C.P T E' k' by' z] (hx : ev G x = some (us.getD i undef)) (hM : Mat EH E enc H K v us xss) (hc : i < xss.length) (h : KL C dr ops Q ims L fl.tail rest ((d, .int .i64 ((xss.getD i []).length : Int)) :: G)) (hlt : Nat.blt d C.n = true := by rfl) :
    KL C dr ops Q ims L fl (⟨some d, .call ⟨.builtin .len, #[x], #[T]⟩, ty, pos, af, none⟩ :: rest) G := by
  obtain ⟨bs, _, _, h3⟩ := hM.bs
  obtain ⟨c, cur, e, _, _, _, hb, _⟩ := h3 i hc
  refine kl_y (fun r w hr _ => ?_) h hlt
  rw [e] at hx
  simp [go_sem, hr _ _ hx, Builtin.len_, run_underlying hT.u, goInt]
theorem kl_rwIz {j : Int} [hT : IsSlice C.P T E' 1 by' z] (hx : ev G x = some (us.getD i undef)) (hy : ev G y = some (.int .i64 j)) (hM : Mat EH E enc H K v us xss) (hc : i < xss.length) (h0 : 0 ≤ j) (h1 : j < ((xss.getD i []).length : Int))
    (h : ∀ p, PtrO (us.getD i undef) p j.toNat → KL C dr ops Q ims L fl.tail rest ((d, p) :: G)) (hlt : Nat.blt d C.n = true := by rfl) :
    KL C dr ops Q ims L fl (⟨some d, .indexAddr T x y, ty, pos, af, none⟩ :: rest) G := by
  obtain ⟨bs, _, _, h3⟩ := hM.bs
  obtain ⟨c, cur, e, _, _, _, _⟩ := h3 i hc
  have h' := h (.pointer (some ⟨bs.getD i 0, j.toNat, none⟩)) ⟨_, _, c, e, rfl⟩
  rw [e] at hx
  clear h h3
  generalize (xss.getD i []).length = n at *
  generalize bs.getD i 0 = b at *
  refine kl_y (v := .pointer (some ⟨b, j.toNat, none⟩)) (fun r w hr _ => ?_) h' hlt
  simp [go_sem, hr _ _ hx, hr _ _ hy, Instr.indexAt, run_underlying hT.u, sizeOf_run hT.size, Addr.add_lit, h0, h1]
theorem kl_rwIx {j : Nat} [hT : IsSlice C.P T E' 1 by' z] (hx : ev G x = some (us.getD i undef)) (hy : ev G y = some (.int .i64 (j : Int))) (hM : Mat EH E enc H K v us xss) (hc : i < xss.length) (h1 : j < (xss.getD i []).length)
    (h : ∀ p, PtrO (us.getD i undef) p j → KL C dr ops Q ims L fl.tail rest ((d, p) :: G)) (hlt : Nat.blt d C.n = true := by rfl) :
    KL C dr ops Q ims L fl (⟨some d, .indexAddr T x y, ty, pos, af, none⟩ :: rest) G := kl_rwIz hx hy hM hc (by omega) (by omega) (fun p hp => h p (by simpa using hp)) hlt
theorem rw_cell {w : World} {j : Nat} (dflt : A) (hM : Mat EH E enc H K v us xss) (hc : i < xss.length) (hj : j < (xss.getD i []).length) (hp : PtrO (us.getD i undef) p j) (hA : Agree K w) :
    ∃ b, p = .pointer (some ⟨b, j, none⟩) ∧ w.cell? ⟨b, j, none⟩ = some (enc ((xss.getD i []).getD j dflt)) := by
  obtain ⟨bs, _, _, h3⟩ := hM.bs
  obtain ⟨c, cur, e, _, _, _, _, h6, h7⟩ := h3 i hc
  obtain ⟨b, n, c', e2, rfl⟩ := hp
  rw [e] at e2
  simp only [Value.slice.injEq, Option.some.injEq, Addr.mk.injEq, and_true] at e2
  obtain ⟨rfl, _, _⟩ := e2
  have h8 := hA _ _ h7
  have h9 := enc_get (d := dflt) h6 hj
  refine ⟨_, rfl, ?_⟩
  generalize bs.getD i 0 = b at *
  generalize enc ((xss.getD i []).getD j dflt) = q at *
  simp [World.cell?, h8, h9]
theorem kl_rwLd {j : Nat} (dflt : A) [hT : OneC C.P T] (hx : ev G x = some p) (hM : Mat EH E enc H K v us xss) (hp : PtrO (us.getD i undef) p j) [hI : In K L] (hc : i < xss.length) (hj : j < (xss.getD i []).length)
    (h : KL C dr ops Q ims L fl.tail rest ((d, enc ((xss.getD i []).getD j dflt)) :: G)) (hlt : Nat.blt d C.n = true := by rfl) (hlo : C.lo = false := by rfl) : KL C dr ops Q ims L fl (⟨some d, .load T x, ty, pos, af, none⟩ :: rest) G :=
  kl_y (fun r w hr hs => by
    rw [Cx.whi hlo] at hs
    obtain ⟨b, rfl, hcell⟩ := rw_cell (w := w) dflt hM hc hj hp (hs.agL (H := K))
    simp [go_sem, hr _ _ hx, Instr.loadAt, loadVar, OneC.run, hcell]) h hlt
theorem kl_rwLde {j : Nat} (dflt : A) [hT : OneC C.P T] (hx : ev G x = some p) (hM : Mat EH E enc H K v us xss) (hp : PtrO (us.getD i undef) p j) [hI : In K ims] (hc : i < xss.length) (hj : j < (xss.getD i []).length)
    (h : KL C dr ops Q ims L fl.tail rest ((d, enc ((xss.getD i []).getD j dflt)) :: G)) (hlt : Nat.blt d C.n = true := by rfl) : KL C dr ops Q ims L fl (⟨some d, .load T x, ty, pos, af, none⟩ :: rest) G :=
  kl_y (fun r w hr hs => by
    obtain ⟨b, rfl, hcell⟩ := rw_cell (w := w) dflt hM hc hj hp (hs.im K hI.mem)
    simp [go_sem, hr _ _ hx, Instr.loadAt, loadVar, OneC.run, hcell]) h hlt
/-- A store into a row. -/
theorem kl_rwSt {j : Nat} (x1 : A) {F : Hp → List Hp} [he : Enc enc] [hT : OneC C.P T] [hF : UpdF K L F] (hx : ev G x = some p) (hy : ev G y = some (enc x1)) (hM : Mat EH E enc H K v us xss) (hp : PtrO (us.getD i undef) p j) (hc : i < xss.length) (hj : j < (xss.getD i []).length)
    (h : ∀ K', Mat EH E enc H K' v us (xss.set i ((xss.getD i []).set j x1)) → (∀ B, Fr B K → Fr B K') → KL C dr ops Q ims (F K') fl.tail rest G) (hfl : fl.headD false = false := by rfl) (hdr : (!dr || rest.isEmpty) = true := by rfl) :
    KL C dr ops Q ims L fl (⟨none, .store T x y, ty, pos, af, none⟩ :: rest) G := by
  obtain ⟨bs, hb1, hb2, h3⟩ := hM.bs
  obtain ⟨c, cur, eu, q2, q3, q4, q5, q6, q7⟩ := h3 i hc
  obtain ⟨b, n, c', e2, rfl⟩ := hp
  rw [eu] at e2
  simp only [Value.slice.injEq, Option.some.injEq, Addr.mk.injEq, and_true] at e2
  obtain ⟨rfl, _, _⟩ := e2
  obtain ⟨b, hbb⟩ : ∃ b, bs.getD i 0 = b := ⟨_, rfl⟩
  rw [hbb] at hx q7
  have hcj : j < cur.toList.length := by simp; omega
  have hset : (cur.toList.take j ++ [enc x1] ++ cur.toList.drop (j + [enc x1].length)) = cur.toList.set j (enc x1) := by
    rw [List.set_eq_take_append_cons_drop, if_pos hcj]; simp
  obtain ⟨K', hK'⟩ : ∃ K' : Hp, K' = fun b' => if b' = b then some (.cells (cur.toList.set j (enc x1)).toArray E (0, 0)) else K b' := ⟨_, rfl⟩
  have hKb : K' b = some (.cells (cur.toList.set j (enc x1)).toArray E (0, 0)) := by rw [hK']; simp
  have hKo : ∀ b', b' ≠ b → K' b' = K b' := fun b' hb' => by rw [hK']; simp [hb']
  refine kl_act rfl hfl fun a w hf hs' => ?_
  have hown := hs'.own _ (hF.u K').mem
  have hwb := hown.1 b _ q7
  have hcur : cur = cur.toList.toArray := by simp
  have hrun : (execOp a.eval ⟨none, .store T x y, ty, pos, af, none⟩).run C.P w = .ok .skip (w.setRow b (cur.toList.set j (enc x1)).toArray) := by
    have := store_run (P := C.P) (T := T) (u := enc x1) (us := [enc x1]) (he.cells x1) (by simpa using hT.i) (by simpa using he.one x1) (w := w) (b := b) (j := j) (E := E) (cur := cur.toList) (by rw [← hcur]; exact hwb) (by simp only [List.length_singleton]; omega)
    rw [hset] at this
    simp only [execOp, Sem.run_bind, hf.ev hx, hf.ev hy, this, Result.andThen_ok, Sem.run_pure]
  unfold Oper.wp
  rw [hrun]
  have hlq : ∀ q o, K' q = some o → ∃ cs T, o = .cells cs T (0, 0) := fun q o hq => by
    by_cases e : q = b
    · subst e; rw [hKb] at hq; cases hq; exact ⟨_, _, rfl⟩
    · rw [hKo q e] at hq; exact hM.lq q o hq
  have hdom : ∀ q, K' q ≠ none → K q ≠ none := fun q hq => by
    by_cases e : q = b
    · subst e; rw [q7]; simp
    · rw [← hKo q e]; exact hq
  refine ⟨ims, F K', G, ?_, hf.putNone, ?_, h K' ⟨by rw [List.length_set]; exact hM.hd, ⟨bs, by rw [List.length_set]; exact hb1, hb2, fun q hq => ?_⟩, hlq⟩ (fun B hB => ⟨fun q hq => hB.1 q (hdom q hq), hlq⟩)⟩
  · cases dr with
    | true => left; simpa using hdr
    | false => right; intro e; cases e
  · refine hs'.upd (u := ⟨hF.u K'⟩) (by simp) (fun b' _ hn => ?_) (fun b' o' hb' => ?_) (fun b' hb' => .inl (hdom b' hb')) ⟨rfl, rfl⟩
    · have hne : b' ≠ b := fun e => by subst e; rw [q7] at hn; cases hn
      exact setRow_other w b b' _ hne
    · by_cases e : b' = b
      · subst e; rw [hKb] at hb'; cases hb'
        exact setRow_heap w _ cur _ E _ hwb
      · rw [hKo b' e] at hb'
        rw [setRow_other w b b' _ e]; exact hown.1 b' o' hb'
  · rw [List.length_set] at hq
    by_cases e : q = i
    · subst e
      have e1 : (xss.set q ((xss.getD q []).set j x1)).getD q [] = (xss.getD q []).set j x1 := by simp [List.getD, hq]
      rw [e1, hbb]
      exact ⟨c, _, by rw [List.length_set, ← hbb]; exact eu, by rw [List.length_set]; exact q2, q3, by simpa using q4, by rw [List.length_set]; exact q5, by
        rw [List.length_set]; simp only []; rw [List.take_set, q6, List.map_set], hKb⟩
    · have e1 : (xss.set i ((xss.getD i []).set j x1)).getD q [] = xss.getD q [] := by
        have e' : i ≠ q := fun h => e h.symm
        simp [List.getD, List.getElem?_set, e']
      rw [e1]
      refine (h3 q hq).mono (hKo _ (fun e2 => ?_))
      have hq1 : q < bs.length := by omega
      have hi1 : i < bs.length := by omega
      rw [← hbb, List.getD_eq_getElem?_getD, List.getElem?_eq_getElem hq1, List.getD_eq_getElem?_getD, List.getElem?_eq_getElem hi1, Option.getD_some, Option.getD_some] at e2
      rcases Nat.lt_or_gt_of_ne e with h9 | h9
      · exact absurd e2 (List.pairwise_iff_getElem.1 hb2 q i hq1 hi1 h9)
      · exact absurd e2.symm (List.pairwise_iff_getElem.1 hb2 i q hi1 hq1 h9)
/-- Two heaplets of the call's own lie apart. -/
theorem kl_apart (K H : Hp) {L' : List Hp} [t : TakeL [K, H] L L'] (h : Apart K H → KL C dr ops Q ims L fl rest G) : KL C dr ops Q ims L fl rest G := fun a w hf hs =>
  h ((List.pairwise_cons.1 (hs.perm t.t).nd).1 H (.head _)) a w hf hs
/-- An owned heaplet of two parts is two. -/
theorem St.split {B : World} {X : Side} {ims L' : List Hp} {w : World} {K H : Hp} (h : St B X ims (orHp K H :: L') w) (ap : Apart K H) : St B X ims (K :: H :: L') w := by
  have hk := h.own _ (.head _)
  have d1 : ∀ b, K b ≠ none → orHp K H b ≠ none := fun b hb e => by
    cases e1 : K b with
    | none => exact hb e1
    | some o => simp [orHp, e1] at e
  have d2 : ∀ b, H b ≠ none → orHp K H b ≠ none := fun b hb e => by
    have := (ap b).resolve_right hb
    simp [orHp, this] at e; exact hb e
  have a1 : Agree K w := fun b o hb => hk.1 b o (by simp [orHp, hb])
  have a2 : Agree H w := fun b o hb => hk.1 b o (by
    have := (ap b).resolve_right (by rw [hb]; simp)
    simp [orHp, this, hb])
  have sub : ∀ M : Hp, Apart (orHp K H) M → Apart K M ∧ Apart H M := fun M ha => ⟨fun b => by
      by_cases e : K b = none
      · exact .inl e
      · exact .inr ((ha b).resolve_left (d1 b e)), fun b => by
      by_cases e : H b = none
      · exact .inl e
      · exact .inr ((ha b).resolve_left (d2 b e))⟩
  have hnd := List.pairwise_cons.1 h.nd
  refine h.still (fun b hb => ?_) h.im (fun M hM => ?_) ?_
  · rcases hb with ⟨M, hM, hb⟩ | hb
    · cases hM with
      | head => exact .inl ⟨_, .head _, d1 b hb⟩
      | tail _ hM => cases hM with
        | head => exact .inl ⟨_, .head _, d2 b hb⟩
        | tail _ hM => exact .inl ⟨M, .tail _ hM, hb⟩
    · exact .inr hb
  · cases hM with
    | head => exact ⟨a1, fun b hb => hk.2.1 b (d1 b hb), fun I hI => (sub I (hk.2.2 I hI)).1⟩
    | tail _ hM => cases hM with
      | head => exact ⟨a2, fun b hb => hk.2.1 b (d2 b hb), fun I hI => (sub I (hk.2.2 I hI)).2⟩
      | tail _ hM => exact h.own M (.tail _ hM)
  · refine List.pairwise_cons.2 ⟨fun M hM => ?_, List.pairwise_cons.2 ⟨fun M hM => (sub M (hnd.1 M hM)).2, hnd.2⟩⟩
    cases hM with
    | head => exact ap
    | tail _ hM => exact (sub M (hnd.1 M hM)).1
theorem kl_split (K H : Hp) {L' : List Hp} [t : TakeL [orHp K H] L L'] (ap : Apart K H) (h : KL C false ops Q ims (K :: H :: L') fl rest G) : KL C false ops Q ims L fl rest G := fun a w hf hs => by
  have h1 := h a w hf ((hs.perm t.t).split ap)
  refine wpSeq_false (fun u hu => ?_) _ _ _ _ h1
  unfold Cx.W at *
  cases e : C.lo <;> rw [e] at hu
  · exact St.split (L' := L') (St.perm (show St C.B C.X ims L u from hu) t.t) ap
  · exact hu
end ops
/-- A list of rows that a call gives: header and rows in one heaplet. -/
def MatR (EH E : Nat) (enc : A → Value) (Hq : Hp) (v : Value) (xss : List (List A)) : Prop := ∃ (H K : Hp) (us : List Value), Hq = orHp H K ∧ Apart H K ∧ Mat EH E enc H K v us xss
theorem Mat.hlq {EH E : Nat} {H K : Hp} {v : Value} {us : List Value} {xss : List (List A)} (h : Mat EH E enc H K v us xss) : Liq H := by
  obtain ⟨_, _, h3⟩ := h.hd
  rcases h3 with ⟨_, _, _, rfl⟩ | ⟨b, c, cur, _, _, _, _, _, rfl⟩
  · exact fun b o hb => by cases hb
  · exact liq_sing
/-- What it reads as. -/
theorem Mat.rows {EH E : Nat} {H K M : Hp} {v : Value} {us : List Value} {xss : List (List Int)} (h : Mat EH E encI H K v us xss) (h1 : ∀ b o, H b = some o → M b = some o) (h2 : ∀ b o, K b = some o → M b = some o) : Rows M v xss := by
  obtain ⟨bs, hb1, hb2, h3⟩ := h.bs
  refine h.hd.sl (k := 1) (K := M) (R := SlC M 1 IntC) rfl h1 (fun i hi => ?_)
  obtain ⟨c, cur, e, q2, q3, q4, q5, q6, q7⟩ := h3 i hi
  have hu : i < us.length := by rw [h.ulen]; exact hi
  rw [Nat.mul_one, List.drop_eq_getElem_cons hu, List.take_succ_cons, List.take_zero]
  have e1 : us.getD i undef = us[i] := by simp [List.getD, hu]
  have e2 : xss.getD i [] = xss[i] := by simp [List.getD, hi]
  rw [e1, e2] at e
  rw [e2] at q2 q5 q6
  refine ⟨us[i], rfl, some ⟨bs.getD i 0, 0, none⟩, c, e, q2, q5, fun j hj => ⟨_, 0, rfl, [.int .i64 xss[i][j]], rfl, rfl, _, 0 + j * 1, cur, E, (0, 0), rfl, h2 _ _ q7, fun q w hq => ?_⟩⟩
  cases q with
  | zero =>
    simp only [List.getElem?_cons_zero, Option.some.injEq] at hq
    subst hq
    have := enc_get (enc := encI) (d := 0) q6 hj
    have e3 : (xss[i]).getD j 0 = xss[i][j] := by simp [List.getD, hj]
    rw [e3] at this
    simpa [encI] using this
  | succ q => simp at hq
theorem fr_l {B : World} {H K : Hp} (h : Fr B (orHp H K)) (l : Liq H) : Fr B H := ⟨fun b hb => h.1 b (fun e => by
  cases e1 : H b with
  | none => exact hb e1
  | some o => simp [orHp, e1] at e), l⟩
theorem fr_r {B : World} {H K : Hp} (h : Fr B (orHp H K)) (l : Liq K) : Fr B K := ⟨fun b hb => h.1 b (fun e => by
  cases e1 : H b with
  | none => simp [orHp, e1] at e; exact hb e
  | some o => simp [orHp, e1] at e), l⟩
theorem OwnL.bmap {E : Nat} {H K : Hp} {v : Value} {xs : List Bool} (h : OwnL E 1 H K BoolV v xs) : OwnS E 1 H v xs.length (xs.map encB) := by
  obtain ⟨cs, h1, h2⟩ := h
  have hl : cs.length = xs.length := by have := h1.1; omega
  have e : cs = xs.map encB := by
    apply List.ext_getElem
    · simp [hl]
    · intro j h3 h4
      have hj : j < xs.length := by omega
      have h5 := h2 j hj
      unfold BoolV at h5
      rw [Nat.mul_one, List.drop_eq_getElem_cons h3, List.take_succ_cons, List.take_zero] at h5
      simp only [List.cons.injEq, and_true] at h5
      rw [h5, List.getElem_map]; rfl
  rw [← e]; exact h1
theorem OwnL.imap {E : Nat} {H K : Hp} {v : Value} {xs : List Int} (h : OwnL E 1 H K IntV v xs) : OwnS E 1 H v xs.length (xs.map encI) := by
  obtain ⟨cs, h1, h2⟩ := h
  have hl : cs.length = xs.length := by have := h1.1; omega
  have e : cs = xs.map encI := by
    apply List.ext_getElem
    · simp [hl]
    · intro j h3 h4
      have hj : j < xs.length := by omega
      have h5 := h2 j hj
      unfold IntV at h5
      rw [Nat.mul_one, List.drop_eq_getElem_cons h3, List.take_succ_cons, List.take_zero] at h5
      simp only [List.cons.injEq, and_true] at h5
      rw [h5, List.getElem_map]; rfl
  rw [← e]; exact h1
theorem kl_mrg {C : Cx} {ops : Array Oper} {Q : Post} {ims L : List Hp} {G : Env} {fl : List Bool} {rest : List Oper} (K H : Hp) {L' : List Hp} [t : TakeL [K, H] L L'] (h : KL C false ops Q ims (orHp K H :: L') fl rest G) : KL C false ops Q ims L fl rest G := fun a w hf hs => by
  have h1 := h a w hf (hs.perm t.t).mrg
  refine wpSeq_false (fun u hu => ?_) _ _ _ _ h1
  unfold Cx.W at *
  cases e : C.lo <;> rw [e] at hu
  · exact (St.perm (show St C.B C.X ims L u from hu) t.t).mrg
  · exact hu
theorem kq_apart {C : Cx} {ims L : List Hp} {G : Env} {p : Act → World → Prop} (K H : Hp) {L' : List Hp} [t : TakeL [K, H] L L'] (h : Apart K H → KQ C ims L G p) : KQ C ims L G p := fun a w hf hs =>
  h ((List.pairwise_cons.1 (hs.perm t.t).nd).1 H (.head _)) a w hf hs
theorem Mat.castX {A : Type} {enc : A → Value} {EH E : Nat} {H K : Hp} {v : Value} {us : List Value} {xs ys : List (List A)} (e : xs = ys) (h : Mat EH E enc H K v us xs) : Mat EH E enc H K v us ys := e ▸ h
end Go.Proofs.Ytiilanckbocifaa
