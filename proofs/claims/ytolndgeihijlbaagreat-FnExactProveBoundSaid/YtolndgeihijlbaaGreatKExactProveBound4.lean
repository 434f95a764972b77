/- Parts of the proof: a logic of partial frames, plain functions, walks of the program's functions. Conditions: those that each statement names. -/
import Derived.Test.YtolndgeihijlbaaGreatKExactProveBound3
import Derived.Laws.StructEq
namespace Go.Proofs.YtolndgeihijlbaaGreat
open Go
set_option linter.unusedSimpArgs false
set_option linter.unusedVariables false
section
def mk1 (k : Int) : Lit := ⟨k, k + 1, decide (Int.tmod (k + 1 + 1) 3 = 0)⟩
def markLt (k : Int) : List Lit → List Lit
  | [] => []
  | _ :: r => mk1 k :: markLt (k + 3) r
theorem markLt_len (k : Int) (xs : List Lit) : (markLt k xs).length = xs.length := by
  induction xs generalizing k with
  | nil => rfl
  | cons x r ih => simp [markLt, ih]
theorem markLt_app (k : Int) (a : List Lit) (x : Lit) : markLt k (a ++ [x]) = markLt k a ++ [mk1 (k + 3 * (a.length : Int))] := by
  induction a generalizing k with
  | nil => simp [markLt]
  | cons y r ih =>
    rw [List.cons_append, markLt, markLt, ih, List.cons_append]
    have : k + 3 + 3 * (r.length : Int) = k + 3 * ((y :: r).length : Int) := by simp; omega
    rw [this]
def mlTo (k : Int) (xs : List Lit) (i : Nat) : List Lit := markLt k (xs.take i) ++ xs.drop i
theorem mlTo_0 (k : Int) (xs : List Lit) : mlTo k xs 0 = xs := by simp [mlTo, markLt]
theorem mlTo_len {k : Int} {xs : List Lit} {i : Nat} (h : i ≤ xs.length) : (mlTo k xs i).length = xs.length := by
  unfold mlTo; rw [List.length_append, markLt_len, List.length_take, List.length_drop]; omega
theorem mlTo_step {k : Int} {xs : List Lit} {i : Nat} (h : i < xs.length) : (mlTo k xs i).set i (mk1 (k + 3 * (i : Int))) = mlTo k xs (i + 1) := by
  unfold mlTo
  have hl : (markLt k (xs.take i)).length = i := by rw [markLt_len, List.length_take]; omega
  have ht : (xs.take i).length = i := by rw [List.length_take]; omega
  rw [take_succ_getD nilLit h, markLt_app, List.set_append_right _ _ (by omega), hl, Nat.sub_self, List.drop_eq_getElem_cons h, List.set_cons_zero, List.append_assoc, ht]
  rfl
theorem mlTo_end {k : Int} {xs : List Lit} {i : Nat} (h : i = xs.length) : mlTo k xs i = markLt k xs := by
  subst h; unfold mlTo; rw [List.take_length, List.drop_length, List.append_nil]
/-- The three stores. -/
theorem ml_set {ys : List Lit} {i : Nat} {a b : Int} {c : Bool} {A1 A2 A3 : Lit} (h : i < ys.length) (e1 : A1 = ⟨a, (ys.getD i nilLit).val, (ys.getD i nilLit).neg⟩)
    (e2 : A2 = ⟨((ys.set i A1).getD i nilLit).var, b, ((ys.set i A1).getD i nilLit).neg⟩) (e3 : A3 = ⟨(((ys.set i A1).set i A2).getD i nilLit).var, (((ys.set i A1).set i A2).getD i nilLit).val, c⟩) :
    ((ys.set i A1).set i A2).set i A3 = ys.set i ⟨a, b, c⟩ := by
  have g : ∀ (zs : List Lit) (x : Lit), i < zs.length → (zs.set i x).getD i nilLit = x := fun zs x hz => by simp [List.getD, hz]
  rw [g ys A1 h] at e2
  rw [g _ A2 (by rw [List.length_set]; exact h)] at e3
  subst e1
  subst e2
  subst e3
  rw [List.set_set, List.set_set]
def heldLt : List Lit → Int → Int
  | [], k => k
  | l :: r, k => if l = mk1 k then heldLt r (k + 3) else -1
theorem heldLt_mark (k : Int) (xs : List Lit) : heldLt (markLt k xs) k = k + 3 * (xs.length : Int) := by
  induction xs generalizing k with
  | nil => simp [markLt, heldLt]
  | cons x r ih => rw [markLt, heldLt, if_pos rfl, ih]; simp; omega
theorem heldLt_cases : ∀ (a : List Lit) (k : Int), heldLt a k = k + 3 * (a.length : Int) ∨ heldLt a k = -1
  | [], k => by left; simp [heldLt]
  | l :: r, k => by
    unfold heldLt
    split
    · rcases heldLt_cases r (k + 3) with h | h
      · left; rw [h]; simp; omega
      · right; exact h
    · right; rfl
structure HlI (a : List Lit) (k : Int) (i : Nat) (l : Int) : Prop where
  e : heldLt (a.drop i) l = heldLt a k
  v : l = k + 3 * (i : Int)
theorem hl_0 {a : List Lit} {k : Int} : HlI a k 0 k := ⟨rfl, by simp⟩
theorem hl_go {a : List Lit} {k l : Int} {i : Nat} (h : HlI a k i l) (hi : i < a.length) : (if a.getD i nilLit = mk1 l then heldLt (a.drop (i + 1)) (l + 3) else -1) = heldLt a k := by
  have e := h.e
  rw [drop_cons nilLit hi, heldLt] at e
  exact e
theorem hl_step {a : List Lit} {k l : Int} {i : Nat} (h : HlI a k i l) (hi : i < a.length) (h1 : ¬ (a.getD i nilLit).var ≠ l) (h2 : ¬ (a.getD i nilLit).val ≠ l + 1) (h3 : ((a.getD i nilLit).neg != decide (Int.tmod (l + 1 + 1) 3 = 0)) = false) : HlI a k (i + 1) (l + 1 + 1 + 1) := by
  have e := hl_go h hi
  rw [if_pos (by
    refine lit_ext.2 ⟨Decidable.not_not.1 h1, Decidable.not_not.1 h2, ?_⟩
    show (a.getD i nilLit).neg = decide (Int.tmod (l + 1 + 1) 3 = 0)
    simpa using h3)] at e
  exact ⟨by rw [← e]; congr 1; omega, by have := h.v; omega⟩
theorem hl_no1 {a : List Lit} {k l : Int} {i : Nat} (h : HlI a k i l) (hi : i < a.length) (c : (a.getD i nilLit).var ≠ l) : (-1 : Int) = heldLt a k := by
  have e := hl_go h hi
  rw [if_neg (fun e9 => c (by rw [e9]; rfl))] at e; exact e
theorem hl_no2 {a : List Lit} {k l : Int} {i : Nat} (h : HlI a k i l) (hi : i < a.length) (c : (a.getD i nilLit).val ≠ l + 1) : (-1 : Int) = heldLt a k := by
  have e := hl_go h hi
  rw [if_neg (fun e9 => c (by rw [e9]; rfl))] at e; exact e
theorem hl_no3 {a : List Lit} {k l : Int} {i : Nat} (h : HlI a k i l) (hi : i < a.length) (c : ((a.getD i nilLit).neg != decide (Int.tmod (l + 1 + 1) 3 = 0)) = true) : (-1 : Int) = heldLt a k := by
  have e := hl_go h hi
  rw [if_neg (fun e9 => by rw [e9] at c; simp [mk1] at c)] at e; exact e
theorem hl_end {a : List Lit} {k l : Int} {i : Nat} (h : HlI a k i l) (hi : i = a.length) : l = heldLt a k := by
  have e := h.e
  rw [hi, List.drop_length] at e; exact e
/-! Lists of clauses. -/
def markLS (k : Int) : List (List Lit) → List (List Lit)
  | [] => []
  | r :: rs => markLt k r :: markLS (k + 3 * (r.length : Int)) rs
theorem markLS_len (k : Int) (xss : List (List Lit)) : (markLS k xss).length = xss.length := by
  induction xss generalizing k with
  | nil => rfl
  | cons r rs ih => simp [markLS, ih]
theorem markLS_app (k : Int) (a : List (List Lit)) (r : List Lit) : markLS k (a ++ [r]) = markLS k a ++ [markLt (k + 3 * ((lsum a : Nat) : Int)) r] := by
  induction a generalizing k with
  | nil => simp [markLS, lsum]
  | cons x xs ih =>
    rw [List.cons_append, markLS, markLS, ih, List.cons_append]
    have : k + 3 * (x.length : Int) + 3 * ((lsum xs : Nat) : Int) = k + 3 * ((lsum (x :: xs) : Nat) : Int) := by simp [lsum]; omega
    rw [this]
def msTo (k : Int) (xss : List (List Lit)) (i : Nat) : List (List Lit) := markLS k (xss.take i) ++ xss.drop i
theorem msTo_0 (k : Int) (xss : List (List Lit)) : msTo k xss 0 = xss := by simp [msTo, markLS]
theorem msTo_len {k : Int} {xss : List (List Lit)} {i : Nat} (h : i ≤ xss.length) : (msTo k xss i).length = xss.length := by
  unfold msTo; rw [List.length_append, markLS_len, List.length_take, List.length_drop]; omega
theorem msTo_at {k : Int} {xss : List (List Lit)} {i : Nat} (h : i < xss.length) : (msTo k xss i).getD i [] = xss.getD i [] := by
  unfold msTo
  have hl : (markLS k (xss.take i)).length = i := by rw [markLS_len, List.length_take]; omega
  rw [List.getD_eq_getElem?_getD, List.getElem?_append_right (by omega), hl, Nat.sub_self, List.getElem?_drop, Nat.add_zero, ← List.getD_eq_getElem?_getD]
theorem msTo_step {k : Int} {xss : List (List Lit)} {i : Nat} (h : i < xss.length) : (msTo k xss i).set i (markLt (k + 3 * ((lsum (xss.take i) : Nat) : Int)) (xss.getD i [])) = msTo k xss (i + 1) := by
  unfold msTo
  have hl : (markLS k (xss.take i)).length = i := by rw [markLS_len, List.length_take]; omega
  rw [take_succ_getD [] h, markLS_app, List.set_append_right _ _ (by omega), hl, Nat.sub_self, List.drop_eq_getElem_cons h, List.set_cons_zero, List.append_assoc]
  rfl
theorem msTo_end {k : Int} {xss : List (List Lit)} {i : Nat} (h : i = xss.length) : msTo k xss i = markLS k xss := by
  subst h; unfold msTo; rw [List.take_length, List.drop_length, List.append_nil]
def heldLS : List (List Lit) → Int → Int
  | [], k => k
  | r :: rs, k => if heldLt r k < 0 then -1 else heldLS rs (heldLt r k)
theorem heldLS_mark {k : Int} (xss : List (List Lit)) (hk : 0 ≤ k) : heldLS (markLS k xss) k = k + 3 * ((lsum xss : Nat) : Int) := by
  induction xss generalizing k with
  | nil => simp [markLS, heldLS, lsum]
  | cons r rs ih =>
    rw [markLS, heldLS, heldLt_mark, if_neg (by omega), ih (by omega)]
    simp [lsum]; omega
theorem heldLS_1 (xss : List (List Lit)) : heldLS (markLS 1 xss) 1 = 1 + 3 * ((lsum xss : Nat) : Int) := heldLS_mark xss (by decide)
theorem lsum_mk (k : Int) (xss : List (List Lit)) : lsum (markLS k xss) = lsum xss := by
  induction xss generalizing k with
  | nil => rfl
  | cons r rs ih => have := ih (k + 3 * (r.length : Int)); simp [markLS, lsum, markLt_len] at this ⊢; exact this
structure HmI (a : List (List Lit)) (k : Int) (i : Nat) (l : Int) : Prop where
  e : heldLS (a.drop i) l = heldLS a k
  n : 0 ≤ l
  b : l + 3 * ((lsum (a.drop i) : Nat) : Int) ≤ 4611686018427387904
theorem hm_0 {a : List (List Lit)} {k : Int} (h : 0 ≤ k ∧ k + 3 * ((lsum a : Nat) : Int) ≤ 4611686018427387904) : HmI a k 0 k := ⟨rfl, h.1, h.2⟩
theorem hm_b {a : List (List Lit)} {k l : Int} {i : Nat} (h : HmI a k i l) (hi : i < a.length) : 0 ≤ l ∧ l + 3 * ((a.getD i []).length : Int) ≤ 4611686018427387904 := by
  have b := h.b
  have n := h.n
  rw [drop_cons [] hi] at b
  simp [lsum] at b
  simp
  omega
theorem hm_step {a : List (List Lit)} {k l : Int} {i : Nat} (h : HmI a k i l) (hi : i < a.length) (c : ¬ heldLt (a.getD i []) l < 0) : HmI a k (i + 1) (heldLt (a.getD i []) l) := by
  have e := h.e
  have b := h.b
  rw [drop_cons [] hi] at e b
  rw [heldLS, if_neg c] at e
  rcases heldLt_cases (a.getD i []) l with h9 | h9
  · have hn := h.n
    refine ⟨e, by omega, ?_⟩
    rw [h9]
    simp [lsum] at b ⊢
    omega
  · omega
theorem hm_no {a : List (List Lit)} {k l : Int} {i : Nat} (h : HmI a k i l) (hi : i < a.length) (c : heldLt (a.getD i []) l < 0) : (-1 : Int) = heldLS a k := by
  have e := h.e
  rw [drop_cons [] hi, heldLS, if_pos c] at e
  exact e
theorem hm_end {a : List (List Lit)} {k l : Int} {i : Nat} (h : HmI a k i l) (hi : i = a.length) : l = heldLS a k := by
  have e := h.e
  rw [hi, List.drop_length] at e
  exact e
theorem LMat.put {EH E : Nat} {H K K' : Hp} {v : Value} {us : List Value} {xs : List (List Lit)} {i : Nat} {r : List Lit} (h : LMat EH E H K v us xs) (sp : SepL E K' us (xs.set i r)) : LMat EH E H K' v us (xs.set i r) := ⟨by rw [List.length_set]; exact h.hd, sp⟩
theorem ms_b {k : Int} {xss : List (List Lit)} {i : Nat} (hk : 0 ≤ k ∧ k + 3 * ((lsum xss : Nat) : Int) ≤ 4611686018427387904) (hi : i ≤ xss.length) (h : i < xss.length) : 0 ≤ k + 3 * ((lsum (xss.take i) : Nat) : Int) ∧ k + 3 * ((lsum (xss.take i) : Nat) : Int) + 3 * ((xss.getD i []).length : Int) ≤ 4611686018427387904 := by
  have h1 := lsum_step h
  have h2 := lsum_le xss (i + 1)
  omega
/-! How long the proofs are. -/
theorem lsum_few {xs : List (List Lit)} {n : Nat} (h : ∀ c ∈ xs, c.length ≤ n) : lsum xs ≤ n * xs.length := by
  induction xs with
  | nil => simp [lsum]
  | cons x r ih =>
    have h1 := h x (.head _)
    have h2 := ih (fun c hc => h c (.tail _ hc))
    have e : lsum (x :: r) = x.length + lsum r := by simp [lsum]
    rw [e, List.length_cons, Nat.mul_succ]; omega
theorem pb_lsum (m : Mod) (obj : List Int) (b : Int) : lsum (pbR m obj b).1 ≤ 2400 := by
  unfold pbR
  split
  · rename_i h0
    unfold infR
    split
    · rename_i hv
      unfold limO
      split
      · rename_i h1
        have hM : MOk (bdR m obj b).1 := ⟨hv⟩
        have ha := ref_acc hM (bdR m obj b).1.doms.length (ds := (bdR m obj b).1.doms) (cl := []) (pre := []) hM.dok (path_nil _ _) (fun F _ h => h) (fun _ h => (by cases h)) h1.1
        have h2 := lsum_few (n := 12) (fun c hc => (cl_nodup (ha.2 c hc).2).2.1)
        have h3 : 12 * (refF (bdR m obj b).1.doms.length (bdR m obj b).1 (bdR m obj b).1.doms []).1.length ≤ 12 * 200 := Nat.mul_le_mul_left _ h1.2
        dsimp only
        omega
      · simp [lsum]
    · simp [lsum]
  · simp [lsum]
end
section
theorem Sl.dropR {A : Type} {H : Hp} {k : Nat} {R : List Value → A → Prop} {v : Value} {xs : List A} (hv : Sl H k R v xs) {j : Nat} (hj : j ≤ xs.length) :
    ∃ u, Sl H k R u (xs.drop j) ∧ ∀ (P : Program) (T E by' : Nat) (z : Value), IsSlice P T E k by' z → ∀ w, (Instr.sliceAt T v (some (.int .i64 (j : Int))) none none).run P w = .ok u w := by
  obtain ⟨a, c, rfl, h1, h2, h3⟩ := hv
  have hl : (xs.drop j).length = xs.length - j := by simp
  have hjc : j ≤ c := by omega
  have hel : ∀ i (hi : i < (xs.drop j).length), ∃ b o, a = some ⟨b, o, none⟩ ∧ ∃ vs, vs.length = k ∧ R vs (xs.drop j)[i] ∧ At H (.pointer (some ⟨b, (o + j * k) + i * k, none⟩)) vs := fun i hi => by
    obtain ⟨b, o, e, vs, l, r, t⟩ := h3 (j + i) (by omega)
    refine ⟨b, o, e, vs, l, by simpa using r, ?_⟩
    rw [Nat.add_mul, ← Nat.add_assoc] at t; exact t
  cases a with
  | none =>
    refine ⟨.slice none (xs.length - j) (c - j), ⟨none, c - j, by rw [hl], by omega, by omega, fun i hi => ?_⟩, fun P T E by' z hT w => ?_⟩
    · obtain ⟨b, o, e, _⟩ := hel i hi; cases e
    · simp [Instr.sliceAt, run_underlying hT.u, Instr.slice, Instr.sliceBounds, Instr.sliceBound, asIntOf, go_sem, sizeOf_run hT.size, hjc, hj]
  | some a =>
    refine ⟨.slice (some (if c = j then a else a.add (j * k))) (xs.length - j) (c - j), ⟨_, c - j, by rw [hl], by omega, by omega, fun i hi => ?_⟩, fun P T E by' z hT w => ?_⟩
    · obtain ⟨b, o, e, vs, l, r, t⟩ := hel i hi
      simp only [Option.some.injEq] at e
      subst e
      have hcj : c ≠ j := by omega
      exact ⟨b, o + j * k, by rw [if_neg hcj, Addr.add_lit], vs, l, r, t⟩
    · by_cases e : c = j
      · simp [Instr.sliceAt, run_underlying hT.u, Instr.slice, Instr.sliceBounds, Instr.sliceBound, asIntOf, go_sem, sizeOf_run hT.size, hjc, hj, e]
        try exact fun h => absurd rfl h
      · simp [Instr.sliceAt, run_underlying hT.u, Instr.slice, Instr.sliceBounds, Instr.sliceBound, asIntOf, go_sem, sizeOf_run hT.size, hjc, hj, e]
        try exact fun h => absurd h.symm e
class LitE (P : Program) (T : Nat) : Prop where
  f : ∃ a b c, P.underlying T = some (.struct (P.fieldsOf T)) ∧ ((P.fieldsOf T).toList.map fun f => (f.type, f.offset, decide (f.name ≠ "_"))) = [(a, 0, true), (b, 1, true), (c, 2, true)] ∧ P.underlying a = some (.int .i64) ∧ P.underlying b = some (.int .i64) ∧ P.underlying c = some .bool ∧
    (P.info? a).map (·.size) = some 1 ∧ (P.info? b).map (·.size) = some 1 ∧ (P.info? c).map (·.size) = some 1
  s : P.stoodInHeld T = false
  g : P.eqGuardType P.depth T = false
section subs
variable {C : Cx} {dr : Bool} {ops : Array Oper} {Q : Post} {ims L : List Hp} {G : Env} {fl : List Bool} {rest : List Oper}
  {d ty : Nat} {pos : String} {af : Array Edge}
theorem kl_slDrop {A : Type} {H : Hp} {k : Nat} {R : List Value → A → Prop} {v : Value} {xs : List A} {x y : Operand} {j : Nat} {T E by' : Nat} {z : Value} [hT : IsSlice C.P T E k by' z]
    (hx : ev G x = some v) (hy : ev G y = some (.int .i64 (j : Int))) (hv : Sl H k R v xs) (h1 : j ≤ xs.length)
    (h : ∀ u, Sl H k R u (xs.drop j) → KL C dr ops Q ims L fl.tail rest ((d, u) :: G)) (hlt : Nat.blt d C.n = true := by rfl) :
    KL C dr ops Q ims L fl (⟨some d, .slice T x (some y) none none, ty, pos, af, none⟩ :: rest) G := by
  obtain ⟨u, hu, hrun⟩ := hv.dropR h1
  refine kl_y (fun r w hr _ => ?_) (h u hu) hlt
  simp only [execOp, Sem.run_bind, hr _ _ hx, hr _ _ hy, Option.map_some, Option.map_none, hrun C.P T E by' z hT, Result.andThen_ok, Sem.run_pure]
theorem part_one {P : Program} {t : Nat} {xs : Array Value} {o : Nat} {v : Value} (hs : (P.info? t).map (·.size) = some 1) (ha : ∀ w, (isAgg t).run P w = .ok false w) (hv : xs[o]? = some v) (w : World) : (part t xs o).run P w = .ok v w := by
  have hlt := (Array.getElem?_eq_some_iff.1 hv).1
  have hve := (Array.getElem?_eq_some_iff.1 hv).2
  simp [part, go_sem, sizeOf_run hs, ha, hlt, hve]
theorem agg_int {P : Program} {t : Nat} (h : P.underlying t = some (.int .i64)) (w : World) : (isAgg t).run P w = .ok false w := by simp [isAgg, run_underlying h]
theorem agg_bool {P : Program} {t : Nat} (h : P.underlying t = some .bool) (w : World) : (isAgg t).run P w = .ok false w := by simp [isAgg, run_underlying h]
theorem eqLit_run {P : Program} {T : Nat} [h : LitE P T] (a1 a2 b1 b2 : Int) (a3 b3 : Bool) (w : World) : (Op.equalIn 10000 T (.agg #[.int .i64 a1, .int .i64 a2, .bool a3]) (.agg #[.int .i64 b1, .int .i64 b2, .bool b3])).run P w = .ok (decide ((⟨a1, a2, a3⟩ : Lit) = ⟨b1, b2, b3⟩)) w := by
  obtain ⟨a, b, c, hu, hf, ha, hb, hc, sa, sb, sc⟩ := h.f
  rw [run_equalIn_struct w 9999 T _ _ hu h.s]
  have hl3 : (P.fieldsOf T).toList.length = 3 := by have := congrArg List.length hf; simpa using this
  generalize (P.fieldsOf T).toList = fs at hf hl3 ⊢
  match fs, hl3 with
  | [f1, f2, f3], _ =>
    simp only [List.map_cons, List.map_nil, List.cons.injEq, Prod.mk.injEq, and_true, decide_eq_true_eq] at hf
    obtain ⟨⟨t1, o1, n1⟩, ⟨t2, o2, n2⟩, ⟨t3, o3, n3⟩⟩ := hf
    have e : decide ((⟨a1, a2, a3⟩ : Lit) = ⟨b1, b2, b3⟩) = ((a1 == b1) && ((a2 == b2) && (a3 == b3))) := by
      rw [Bool.eq_iff_iff]; simp
    rw [e]
    simp only [Op.eqFields, if_pos n1, if_pos n2, if_pos n3, Sem.run_bind, t1, t2, t3, o1, o2, o3,
      part_one sa (agg_int ha) (show (#[Value.int .i64 a1, Value.int .i64 a2, Value.bool a3])[0]? = some (Value.int .i64 a1) from rfl), part_one sa (agg_int ha) (show (#[Value.int .i64 b1, Value.int .i64 b2, Value.bool b3])[0]? = some (Value.int .i64 b1) from rfl), Result.andThen_ok, run_equalIn_int w 9998 a .i64 .i64 a1 b1 ha]
    cases (a1 == b1) with
    | false => rfl
    | true =>
      simp only [Bool.not_true, Bool.false_eq_true, if_false, Bool.true_and, Sem.run_bind, part_one sb (agg_int hb) (show (#[Value.int .i64 a1, Value.int .i64 a2, Value.bool a3])[1]? = some (Value.int .i64 a2) from rfl), part_one sb (agg_int hb) (show (#[Value.int .i64 b1, Value.int .i64 b2, Value.bool b3])[1]? = some (Value.int .i64 b2) from rfl), Result.andThen_ok, run_equalIn_int w 9998 b .i64 .i64 a2 b2 hb]
      cases (a2 == b2) with
      | false => rfl
      | true =>
        simp only [Bool.not_true, Bool.false_eq_true, if_false, Bool.true_and, Sem.run_bind, part_one sc (agg_bool hc) (show (#[Value.int .i64 a1, Value.int .i64 a2, Value.bool a3])[2]? = some (Value.bool a3) from rfl), part_one sc (agg_bool hc) (show (#[Value.int .i64 b1, Value.int .i64 b2, Value.bool b3])[2]? = some (Value.bool b3) from rfl), Result.andThen_ok, run_equalIn_bool' w 9998 c a3 b3 hc]
        cases (a3 == b3) <;> rfl
theorem kl_eqlQ {x y : Operand} {T T2 : Nat} {a1 a2 b1 b2 : Int} {a3 b3 : Bool} [hT : LitE C.P T] (hx : ev G x = some (.agg #[.int .i64 a1, .int .i64 a2, .bool a3])) (hy : ev G y = some (.agg #[.int .i64 b1, .int .i64 b2, .bool b3]))
    (h : KL C dr ops Q ims L fl.tail rest ((d, .bool (decide ((⟨a1, a2, a3⟩ : Lit) = ⟨b1, b2, b3⟩))) :: G)) (hlt : Nat.blt d C.n = true := by rfl) :
    KL C dr ops Q ims L fl (⟨some d, .binOp .eql T x y T2, ty, pos, af, none⟩ :: rest) G :=
  kl_y (fun r w hr _ => by
    simp only [execOp, Sem.run_bind, Sem.run_pure, Result.andThen_ok, hr _ _ hx, hr _ _ hy, run_eqGuard_agg w _ _ _ _ _ _ hT.g, run_eql_struct, eqLit_run]) h hlt
/-- One literal in a list that is written out: owned memory. -/
theorem kl_bsQo {a b : Int} {c : Bool} {T E by' : Nat} {z : Value} [hT : IsSlice C.P T E 3 by' z] {ps : List (Nat × Operand)} (hp : evp G ps = some [(0, .agg #[.int .i64 a, .int .i64 b, .bool c])])
    (h : ∀ v H, Fr C.B H → OwnL E 3 H noHp LitV v [⟨a, b, c⟩] → KL C dr ops Q ims (H :: L) fl.tail rest ((d, v) :: G)) (hlt : Nat.blt d C.n = true := by rfl) (hfl : fl.headD false = false := by rfl) :
    KL C dr ops Q ims L fl (⟨some d, .buildSlice T 1 ps.toArray, ty, pos, af, none⟩ :: rest) G := by
  refine kl_new (v := fun b => .slice (some ⟨b, 0, none⟩) 1 1) (o := .cells #[.int .i64 a, .int .i64 b, .bool c] E) (fun r w hr => ?_) (fun q hb => h _ _ (fr_sing hb) ⟨[.int .i64 a, .int .i64 b, .bool c], ⟨rfl, by simp, .inr ⟨q, 1, _, rfl, Nat.le_refl _, by simp only [maxLen]; omega, Nat.le_refl _, rfl, rfl⟩⟩, fun i hi => ?_⟩) hlt hfl
  · have hps := evp_run hr hp
    have hz := hT.z
    have hzv : (zeroValue E).run C.P w = .ok z w := zeroValue_run (by obtain ⟨i, hi, hz', _⟩ := hT.info; simp [hi, hz']) w
    have key : (Instr.buildSlice T 1 [((0 : Nat), Value.agg #[.int .i64 a, .int .i64 b, .bool c])].toArray).run C.P w = .ok (.slice (some ⟨w.heap.size, 0, none⟩) 1 1) (w.alloc (.cells #[.int .i64 a, .int .i64 b, .bool c] E)) := by
      have hff := fill_three (a := .int .i64 a) (b := .int .i64 b) (c := .bool c) (cells := (Array.range (1 * 3)).map (z.cells[· % z.cells.size]!)) (by simp)
      simp only [Instr.buildSlice, Sem.run_bind, run_underlying hT.u, Result.andThen_ok, sizeOf_run hT.size]
      rw [if_neg (by decide), if_neg (by decide)]
      simp only [Sem.run_bind, hzv, Result.andThen_ok, Sem.run_pure, hff]
      rfl
    simp only [execOp, Sem.run_bind, List.map_toArray, hps, key, Result.andThen_ok, Sem.run_pure]
  · have hi0 : i = 0 := by simpa using hi
    subst hi0; rfl
end subs
end
section
abbrev bxS (b : Nat) (l : List Value) (T : Nat) : Hp := sing b (.cells l.toArray T (0, 0))
theorem nsl {A : Type} {l : List A} : ([] : List A).Sublist l := List.nil_sublist l
def pkA (G : Env) : List Nat → Option Env
 | [] => some []
 | k :: ks => match look k G with
  | none => none
  | some v => match pkA G ks with
   | none => none
   | some r => some ((k, v) :: r)
theorem pk {G : Env} : ∀ (ks : List Nat) {G' : Env}, pkA G ks = some G' → Pick G G'
 | [], G', h => by simp only [pkA, Option.some.injEq] at h; subst h; exact pn
 | k :: ks, G', h => by
  unfold pkA at h
  split at h
  · cases h
  · rename_i v hv
    split at h
    · cases h
    · rename_i r hr
      simp only [Option.some.injEq] at h
      subst h
      exact pc k hv (pk ks hr)
theorem smpE : (∀ b : Bool, ((!b) = true) = (b = false)) ∧ (∀ b : Bool, ((!b) = false) = (b = true)) ∧ (!true) = false ∧ (!false) = true ∧ (∀ a b : Bool, ((a && b) = true) = (a = true ∧ b = true)) ∧ (∀ a b : Bool, ((a || b) = false) = (a = false ∧ b = false)) ∧ (∀ (p : Prop) [Decidable p], (decide p = true) = p) ∧ (∀ (p : Prop) [Decidable p], (decide p = false) = ¬p) :=
 ⟨smpC.1, smpC.2.1, smpC.2.2.1, smpC.2.2.2.1, smpC.2.2.2.2.1, smpC.2.2.2.2.2, fun p _ => by simp, fun p _ => by simp⟩
theorem smpD : (∀ b : Bool, ((!b) = true) = (b = false)) ∧ (∀ b : Bool, ((!b) = false) = (b = true)) ∧ (∀ a b : Bool, ((a && b) = true) = (a = true ∧ b = true)) ∧ (∀ a b : Bool, ((a || b) = false) = (a = false ∧ b = false)) ∧ (∀ (p : Prop) [Decidable p], (decide p = true) = p) ∧ (∀ (p : Prop) [Decidable p], (decide p = false) = ¬p) ∧ (∀ n lo hi : Int, (withinB n lo hi = true) = (lo ≤ n ∧ n ≤ hi)) :=
 ⟨smpC.1, smpC.2.1, smpC.2.2.2.2.1, smpC.2.2.2.2.2, fun p _ => by simp, fun p _ => by simp, fun _ _ _ => propext withinB_iff⟩
theorem tq {C : Cx} {ops : Array Oper} {Q : Post} {fx : Nat → Bool} {LS : List Hp} {fuel : Nat} {listed : Array Bool} {ims L : List Hp} {G : Env} (k : Nat) {o : Oper} (hl : LS.Sublist L) (ho : ops[k]? = some o)
  (h : KL C true ops (QP C ops (Only Q) fx LS fuel (listed.setIfInBounds k true) ims L) (LS ++ ims) [] [true] [o] G)
  (hB : (Region.noSelect ops && (Region.ready .any ops listed).contains k && Region.free .any ops listed k && (List.range ops.size).all (fun j => !(fx j) || listed.getD j false || waitsB .any ops ops.size j k)) = true := by kernel_rfl) : KT C ops (Only Q) fx LS (fuel + 1) listed ims L G := kt_q k hl ho hB h
theorem ta {C : Cx} {ops : Array Oper} {Q : Post} {fx : Nat → Bool} {LS : List Hp} {fuel : Nat} {listed : Array Bool} {ims L : List Hp} {G : Env} (k : Nat) {o : Oper} (ho : ops[k]? = some o)
  (h : KL C true ops (QA C ops Q fx LS k fuel (listed.setIfInBounds k true) ims) ims L [false] [o] G) (hB : (Region.ready .any ops listed == [k]) = true := by kernel_rfl) : KT C ops Q fx LS (fuel + 1) listed ims L G := kt_a k ho hB h
instance : IsSlice Tryz.prog 22 5 1 1 (.int .u8 0) := ⟨by kernel_rfl, by kernel_rfl, rfl, by decide⟩
instance : IsSlice Tryz.prog 23 3 1 8 (.int .i64 0) := ⟨by kernel_rfl, by kernel_rfl, rfl, by decide⟩
instance : IsSlice Tryz.prog 24 88 5 88 (.agg #[.int .i64 0, .slice none 0 0, .slice none 0 0, .int .i64 0, .slice none 0 0]) := ⟨by kernel_rfl, by kernel_rfl, rfl, by decide⟩
instance : IsSlice Tryz.prog 29 69 1 24 (.slice none 0 0) := ⟨by kernel_rfl, by kernel_rfl, rfl, by decide⟩
instance : IsSlice Tryz.prog 40 23 1 24 (.slice none 0 0) := ⟨by kernel_rfl, by kernel_rfl, rfl, by decide⟩
instance : IsSlice Tryz.prog 43 115 5 88 (.agg #[.int .i64 0, .slice none 0 0, .slice none 0 0, .int .i64 0, .slice none 0 0]) := ⟨by kernel_rfl, by kernel_rfl, rfl, by decide⟩
instance : IsSlice Tryz.prog 69 100 3 24 (.agg #[.int .i64 0, .int .i64 0, .bool false]) := ⟨by kernel_rfl, by kernel_rfl, rfl, by decide⟩
instance : OneC Tryz.prog 3 := ⟨by kernel_rfl, by kernel_rfl⟩
instance : OneC Tryz.prog 4 := ⟨by kernel_rfl, by kernel_rfl⟩
instance : OneC Tryz.prog 5 := ⟨by kernel_rfl, by kernel_rfl⟩
instance : OneC Tryz.prog 22 := ⟨by kernel_rfl, by kernel_rfl⟩
instance : OneC Tryz.prog 23 := ⟨by kernel_rfl, by kernel_rfl⟩
instance : OneC Tryz.prog 24 := ⟨by kernel_rfl, by kernel_rfl⟩
instance : OneC Tryz.prog 29 := ⟨by kernel_rfl, by kernel_rfl⟩
instance : OneC Tryz.prog 40 := ⟨by kernel_rfl, by kernel_rfl⟩
instance : OneC Tryz.prog 43 := ⟨by kernel_rfl, by kernel_rfl⟩
instance : OneC Tryz.prog 69 := ⟨by kernel_rfl, by kernel_rfl⟩
instance : OneC Tryz.prog 108 := ⟨by kernel_rfl, by kernel_rfl⟩
instance : OneC Tryz.prog 143 := ⟨by kernel_rfl, by kernel_rfl⟩
instance : OneC Tryz.prog 187 := ⟨by kernel_rfl, by kernel_rfl⟩
instance : AggC Tryz.prog 26 2 := ⟨by kernel_rfl, by kernel_rfl, by decide⟩
instance : AggC Tryz.prog 45 2 := ⟨by kernel_rfl, by kernel_rfl, by decide⟩
instance : AggC Tryz.prog 88 5 := ⟨by kernel_rfl, by kernel_rfl, by decide⟩
instance : AggC Tryz.prog 100 3 := ⟨by kernel_rfl, by kernel_rfl, by decide⟩
instance : AggC Tryz.prog 115 5 := ⟨by kernel_rfl, by kernel_rfl, by decide⟩
instance : ZeroC Tryz.prog 3 (.int .i64 0) := ⟨by kernel_rfl⟩
instance : ZeroC Tryz.prog 23 (.slice none 0 0) := ⟨by kernel_rfl⟩
instance : ZeroC Tryz.prog 26 (.agg #[.slice none 0 0, .slice none 0 0]) := ⟨by kernel_rfl⟩
instance : ZeroC Tryz.prog 29 (.slice none 0 0) := ⟨by kernel_rfl⟩
instance : ZeroC Tryz.prog 40 (.slice none 0 0) := ⟨by kernel_rfl⟩
instance : ZeroC Tryz.prog 88 (.agg #[.int .i64 0, .slice none 0 0, .slice none 0 0, .int .i64 0, .slice none 0 0]) := ⟨by kernel_rfl⟩
instance : ZeroC Tryz.prog 100 (.agg #[.int .i64 0, .int .i64 0, .bool false]) := ⟨by kernel_rfl⟩
instance : ZeroC Tryz.prog 143 (.nilFunc) := ⟨by kernel_rfl⟩
instance : ZeroC Tryz.prog 187 (.int .u64 0) := ⟨by kernel_rfl⟩
instance : IsInt Tryz.prog 3 .i64 := ⟨by kernel_rfl⟩
instance : IsInt Tryz.prog 5 .u8 := ⟨by kernel_rfl⟩
instance : IsInt Tryz.prog 154 .u64 := ⟨by kernel_rfl⟩
instance : IsInt Tryz.prog 163 .u32 := ⟨by kernel_rfl⟩
instance : IsInt Tryz.prog 165 .u64 := ⟨by kernel_rfl⟩
instance : IsInt Tryz.prog 187 .u64 := ⟨by kernel_rfl⟩
instance : IsBool Tryz.prog 4 := ⟨by kernel_rfl⟩
instance : IsStr Tryz.prog 9 := ⟨by kernel_rfl⟩
instance : LitE Tryz.prog 100 := ⟨⟨3, 3, 4, by kernel_rfl, by kernel_rfl, by kernel_rfl, by kernel_rfl, by kernel_rfl, by kernel_rfl, by kernel_rfl, by kernel_rfl⟩, by kernel_rfl, by kernel_rfl⟩
instance : MapBI Tryz.prog 172 := ⟨⟨_, _, Tryz.underlying172, by kernel_rfl, by kernel_rfl⟩⟩
instance : StrC Tryz.prog 26 [0, 1] [1, 1] [.slice none 0 0, .slice none 0 0] := ⟨by kernel_rfl, ⟨_, Tryz.underlying26, fun w => places2 rfl rfl rfl rfl (by kernel_rfl) (by kernel_rfl) w⟩⟩
instance : StrC Tryz.prog 84 [0, 1] [1, 1] [.slice none 0 0, .int .i64 0] := ⟨by kernel_rfl, ⟨_, Tryz.underlying84, fun w => places2 rfl rfl rfl rfl (by kernel_rfl) (by kernel_rfl) w⟩⟩
instance : StrC Tryz.prog 88 [0, 1, 2, 3, 4] [1, 1, 1, 1, 1] [.int .i64 0, .slice none 0 0, .slice none 0 0, .int .i64 0, .slice none 0 0] := ⟨by kernel_rfl, ⟨_, Tryz.underlying88, fun w => places5 rfl rfl rfl rfl rfl rfl rfl rfl rfl rfl (by kernel_rfl) (by kernel_rfl) (by kernel_rfl) (by kernel_rfl) (by kernel_rfl) w⟩⟩
instance : StrC Tryz.prog 97 [0, 2, 3] [2, 1, 1] [.slice none 0 0, .slice none 0 0, .slice none 0 0, .bool false] := ⟨by kernel_rfl, ⟨_, Tryz.underlying97, fun w => places3 rfl rfl rfl rfl rfl rfl (by kernel_rfl) (by kernel_rfl) (by kernel_rfl) w⟩⟩
instance : StrC Tryz.prog 100 [0, 1, 2] [1, 1, 1] [.int .i64 0, .int .i64 0, .bool false] := ⟨by kernel_rfl, ⟨_, Tryz.underlying100, fun w => places3 rfl rfl rfl rfl rfl rfl (by kernel_rfl) (by kernel_rfl) (by kernel_rfl) w⟩⟩
instance : StrC Tryz.prog 127 [0, 2, 3, 4] [2, 1, 1, 1] [.slice none 0 0, .slice none 0 0, .int .i64 0, .int .i64 0, .slice none 0 0] := ⟨by kernel_rfl, ⟨_, Tryz.underlying127, fun w => places4 rfl rfl rfl rfl rfl rfl rfl rfl (by kernel_rfl) (by kernel_rfl) (by kernel_rfl) (by kernel_rfl) w⟩⟩
instance : StrC Tryz.prog 170 [0, 5, 6, 7] [5, 1, 1, 1] [.int .i64 0, .slice none 0 0, .slice none 0 0, .int .i64 0, .slice none 0 0, .slice none 0 0, .slice none 0 0, .slice none 0 0] := ⟨by kernel_rfl, ⟨_, Tryz.underlying170, fun w => places4 rfl rfl rfl rfl rfl rfl rfl rfl (by kernel_rfl) (by kernel_rfl) (by kernel_rfl) (by kernel_rfl) w⟩⟩
instance : FieldC Tryz.prog 26 0 0 := ⟨⟨_, _, Tryz.underlying26, rfl, rfl, by kernel_rfl⟩⟩
instance : FieldC Tryz.prog 26 1 1 := ⟨⟨_, _, Tryz.underlying26, rfl, rfl, by kernel_rfl⟩⟩
instance : FieldC Tryz.prog 45 0 0 := ⟨⟨_, _, Tryz.underlying45, rfl, rfl, by kernel_rfl⟩⟩
instance : FieldC Tryz.prog 45 1 1 := ⟨⟨_, _, Tryz.underlying45, rfl, rfl, by kernel_rfl⟩⟩
instance : FieldC Tryz.prog 84 0 0 := ⟨⟨_, _, Tryz.underlying84, rfl, rfl, by kernel_rfl⟩⟩
instance : FieldC Tryz.prog 84 1 1 := ⟨⟨_, _, Tryz.underlying84, rfl, rfl, by kernel_rfl⟩⟩
instance : FieldC Tryz.prog 88 0 0 := ⟨⟨_, _, Tryz.underlying88, rfl, rfl, by kernel_rfl⟩⟩
instance : FieldC Tryz.prog 88 1 1 := ⟨⟨_, _, Tryz.underlying88, rfl, rfl, by kernel_rfl⟩⟩
instance : FieldC Tryz.prog 88 2 2 := ⟨⟨_, _, Tryz.underlying88, rfl, rfl, by kernel_rfl⟩⟩
instance : FieldC Tryz.prog 88 3 3 := ⟨⟨_, _, Tryz.underlying88, rfl, rfl, by kernel_rfl⟩⟩
instance : FieldC Tryz.prog 88 4 4 := ⟨⟨_, _, Tryz.underlying88, rfl, rfl, by kernel_rfl⟩⟩
instance : FieldC Tryz.prog 97 0 0 := ⟨⟨_, _, Tryz.underlying97, rfl, rfl, by kernel_rfl⟩⟩
instance : FieldC Tryz.prog 97 1 2 := ⟨⟨_, _, Tryz.underlying97, rfl, rfl, by kernel_rfl⟩⟩
instance : FieldC Tryz.prog 97 2 3 := ⟨⟨_, _, Tryz.underlying97, rfl, rfl, by kernel_rfl⟩⟩
instance : FieldC Tryz.prog 100 0 0 := ⟨⟨_, _, Tryz.underlying100, rfl, rfl, by kernel_rfl⟩⟩
instance : FieldC Tryz.prog 100 1 1 := ⟨⟨_, _, Tryz.underlying100, rfl, rfl, by kernel_rfl⟩⟩
instance : FieldC Tryz.prog 100 2 2 := ⟨⟨_, _, Tryz.underlying100, rfl, rfl, by kernel_rfl⟩⟩
instance : FieldC Tryz.prog 115 0 0 := ⟨⟨_, _, Tryz.underlying115, rfl, rfl, by kernel_rfl⟩⟩
instance : FieldC Tryz.prog 115 1 1 := ⟨⟨_, _, Tryz.underlying115, rfl, rfl, by kernel_rfl⟩⟩
instance : FieldC Tryz.prog 115 2 2 := ⟨⟨_, _, Tryz.underlying115, rfl, rfl, by kernel_rfl⟩⟩
instance : FieldC Tryz.prog 115 3 3 := ⟨⟨_, _, Tryz.underlying115, rfl, rfl, by kernel_rfl⟩⟩
instance : FieldC Tryz.prog 115 4 4 := ⟨⟨_, _, Tryz.underlying115, rfl, rfl, by kernel_rfl⟩⟩
instance : FieldC Tryz.prog 127 0 0 := ⟨⟨_, _, Tryz.underlying127, rfl, rfl, by kernel_rfl⟩⟩
instance : FieldC Tryz.prog 127 1 2 := ⟨⟨_, _, Tryz.underlying127, rfl, rfl, by kernel_rfl⟩⟩
instance : FieldC Tryz.prog 127 2 3 := ⟨⟨_, _, Tryz.underlying127, rfl, rfl, by kernel_rfl⟩⟩
instance : FieldC Tryz.prog 127 3 4 := ⟨⟨_, _, Tryz.underlying127, rfl, rfl, by kernel_rfl⟩⟩
instance : FieldC Tryz.prog 170 0 0 := ⟨⟨_, _, Tryz.underlying170, rfl, rfl, by kernel_rfl⟩⟩
instance : FieldC Tryz.prog 170 1 5 := ⟨⟨_, _, Tryz.underlying170, rfl, rfl, by kernel_rfl⟩⟩
instance : FieldC Tryz.prog 170 2 6 := ⟨⟨_, _, Tryz.underlying170, rfl, rfl, by kernel_rfl⟩⟩
instance : FieldC Tryz.prog 170 3 7 := ⟨⟨_, _, Tryz.underlying170, rfl, rfl, by kernel_rfl⟩⟩
instance : FnC Tryz.prog 7 := fnC_of Tryz.func7 rfl (by kernel_rfl)
instance : FnC Tryz.prog 8 := fnC_of Tryz.func8 rfl (by kernel_rfl)
instance : FnC Tryz.prog 9 := fnC_of Tryz.func9 rfl (by kernel_rfl)
instance : FnC Tryz.prog 10 := fnC_of Tryz.func10 rfl (by kernel_rfl)
instance : FnC Tryz.prog 11 := fnC_of Tryz.func11 rfl (by kernel_rfl)
instance : FnC Tryz.prog 12 := fnC_of Tryz.func12 rfl (by kernel_rfl)
instance : FnC Tryz.prog 13 := fnC_of Tryz.func13 rfl (by kernel_rfl)
instance : FnC Tryz.prog 14 := fnC_of Tryz.func14 rfl (by kernel_rfl)
instance : FnC Tryz.prog 15 := fnC_of Tryz.func15 rfl (by kernel_rfl)
instance : FnC Tryz.prog 16 := fnC_of Tryz.func16 rfl (by kernel_rfl)
instance : FnC Tryz.prog 17 := fnC_of Tryz.func17 rfl (by kernel_rfl)
instance : FnC Tryz.prog 18 := fnC_of Tryz.func18 rfl (by kernel_rfl)
instance : FnC Tryz.prog 19 := fnC_of Tryz.func19 rfl (by kernel_rfl)
instance : FnC Tryz.prog 20 := fnC_of Tryz.func20 rfl (by kernel_rfl)
instance : FnC Tryz.prog 21 := fnC_of Tryz.func21 rfl (by kernel_rfl)
instance : FnC Tryz.prog 22 := fnC_of Tryz.func22 rfl (by kernel_rfl)
instance : FnC Tryz.prog 23 := fnC_of Tryz.func23 rfl (by kernel_rfl)
instance : FnC Tryz.prog 24 := fnC_of Tryz.func24 rfl (by kernel_rfl)
instance : FnC Tryz.prog 25 := fnC_of Tryz.func25 rfl (by kernel_rfl)
instance : FnC Tryz.prog 26 := fnC_of Tryz.func26 rfl (by kernel_rfl)
instance : FnC Tryz.prog 27 := fnC_of Tryz.func27 rfl (by kernel_rfl)
instance : FnC Tryz.prog 28 := fnC_of Tryz.func28 rfl (by kernel_rfl)
instance : FnC Tryz.prog 29 := fnC_of Tryz.func29 rfl (by kernel_rfl)
instance : FnC Tryz.prog 30 := fnC_of Tryz.func30 rfl (by kernel_rfl)
instance : FnC Tryz.prog 31 := fnC_of Tryz.func31 rfl (by kernel_rfl)
instance : FnC Tryz.prog 32 := fnC_of Tryz.func32 rfl (by kernel_rfl)
instance : FnC Tryz.prog 33 := fnC_of Tryz.func33 rfl (by kernel_rfl)
instance : FnC Tryz.prog 34 := fnC_of Tryz.func34 rfl (by kernel_rfl)
instance : FnC Tryz.prog 35 := fnC_of Tryz.func35 rfl (by kernel_rfl)
instance : FnC Tryz.prog 36 := fnC_of Tryz.func36 rfl (by kernel_rfl)
instance : FnC Tryz.prog 37 := fnC_of Tryz.func37 rfl (by kernel_rfl)
instance : FnC Tryz.prog 38 := fnC_of Tryz.func38 rfl (by kernel_rfl)
instance : FnC Tryz.prog 39 := fnC_of Tryz.func39 rfl (by kernel_rfl)
instance : FnC Tryz.prog 40 := fnC_of Tryz.func40 rfl (by kernel_rfl)
instance : FnC Tryz.prog 41 := fnC_of Tryz.func41 rfl (by kernel_rfl)
instance : FnC Tryz.prog 42 := fnC_of Tryz.func42 rfl (by kernel_rfl)
instance : FnC Tryz.prog 43 := fnC_of Tryz.func43 rfl (by kernel_rfl)
instance : FnC Tryz.prog 44 := fnC_of Tryz.func44 rfl (by kernel_rfl)
instance : FnC Tryz.prog 45 := fnC_of Tryz.func45 rfl (by kernel_rfl)
instance : FnC Tryz.prog 46 := fnC_of Tryz.func46 rfl (by kernel_rfl)
instance : FnC Tryz.prog 47 := fnC_of Tryz.func47 rfl (by kernel_rfl)
instance : FnC Tryz.prog 48 := fnC_of Tryz.func48 rfl (by kernel_rfl)
instance : FnC Tryz.prog 49 := fnC_of Tryz.func49 rfl (by kernel_rfl)
instance : FnC Tryz.prog 50 := fnC_of Tryz.func50 rfl (by kernel_rfl)
instance : FnC Tryz.prog 51 := fnC_of Tryz.func51 rfl (by kernel_rfl)
instance : FnC Tryz.prog 52 := fnC_of Tryz.func52 rfl (by kernel_rfl)
instance : FnC Tryz.prog 53 := fnC_of Tryz.func53 rfl (by kernel_rfl)
instance : FnC Tryz.prog 54 := fnC_of Tryz.func54 rfl (by kernel_rfl)
instance : FnC Tryz.prog 55 := fnC_of Tryz.func55 rfl (by kernel_rfl)
instance : FnC Tryz.prog 56 := fnC_of Tryz.func56 rfl (by kernel_rfl)
instance : FnC Tryz.prog 57 := fnC_of Tryz.func57 rfl (by kernel_rfl)
instance : FnC Tryz.prog 58 := fnC_of Tryz.func58 rfl (by kernel_rfl)
instance : FnC Tryz.prog 59 := fnC_of Tryz.func59 rfl (by kernel_rfl)
instance : FnC Tryz.prog 60 := fnC_of Tryz.func60 rfl (by kernel_rfl)
instance : FnC Tryz.prog 61 := fnC_of Tryz.func61 rfl (by kernel_rfl)
instance : FnC Tryz.prog 62 := fnC_of Tryz.func62 rfl (by kernel_rfl)
instance : FnC Tryz.prog 63 := fnC_of Tryz.func63 rfl (by kernel_rfl)
instance : FnC Tryz.prog 64 := fnC_of Tryz.func64 rfl (by kernel_rfl)
instance : FnC Tryz.prog 65 := fnC_of Tryz.func65 rfl (by kernel_rfl)
instance : FnC Tryz.prog 66 := fnC_of Tryz.func66 rfl (by kernel_rfl)
instance : FnC Tryz.prog 67 := fnC_of Tryz.func67 rfl (by kernel_rfl)
instance : FnC Tryz.prog 68 := fnC_of Tryz.func68 rfl (by kernel_rfl)
instance : FnC Tryz.prog 69 := fnC_of Tryz.func69 rfl (by kernel_rfl)
instance : FnC Tryz.prog 70 := fnC_of Tryz.func70 rfl (by kernel_rfl)
instance : FnC Tryz.prog 71 := fnC_of Tryz.func71 rfl (by kernel_rfl)
instance : FnC Tryz.prog 72 := fnC_of Tryz.func72 rfl (by kernel_rfl)
instance : FnC Tryz.prog 73 := fnC_of Tryz.func73 rfl (by kernel_rfl)
instance : FnC Tryz.prog 74 := fnC_of Tryz.func74 rfl (by kernel_rfl)
instance : FnC Tryz.prog 75 := fnC_of Tryz.func75 rfl (by kernel_rfl)
instance : FnC Tryz.prog 76 := fnC_of Tryz.func76 rfl (by kernel_rfl)
instance : FnC Tryz.prog 77 := fnC_of Tryz.func77 rfl (by kernel_rfl)
instance : FnC Tryz.prog 78 := fnC_of Tryz.func78 rfl (by kernel_rfl)
instance : FnC Tryz.prog 79 := fnC_of Tryz.func79 rfl (by kernel_rfl)
instance : FnC Tryz.prog 80 := fnC_of Tryz.func80 rfl (by kernel_rfl)
instance : FnC Tryz.prog 81 := fnC_of Tryz.func81 rfl (by kernel_rfl)
instance : FnC Tryz.prog 82 := fnC_of Tryz.func82 rfl (by kernel_rfl)
instance : FnC Tryz.prog 83 := fnC_of Tryz.func83 rfl (by kernel_rfl)
instance : FnC Tryz.prog 84 := fnC_of Tryz.func84 rfl (by kernel_rfl)
instance : FnC Tryz.prog 85 := fnC_of Tryz.func85 rfl (by kernel_rfl)
instance : FnC Tryz.prog 86 := fnC_of Tryz.func86 rfl (by kernel_rfl)
instance : FnC Tryz.prog 87 := fnC_of Tryz.func87 rfl (by kernel_rfl)
instance : FnC Tryz.prog 88 := fnC_of Tryz.func88 rfl (by kernel_rfl)
instance : FnC Tryz.prog 89 := fnC_of Tryz.func89 rfl (by kernel_rfl)
instance : FnC Tryz.prog 90 := fnC_of Tryz.func90 rfl (by kernel_rfl)
instance : FnC Tryz.prog 91 := fnC_of Tryz.func91 rfl (by kernel_rfl)
instance : FnC Tryz.prog 92 := fnC_of Tryz.func92 rfl (by kernel_rfl)
instance : FnC Tryz.prog 93 := fnC_of Tryz.func93 rfl (by kernel_rfl)
instance : FnC Tryz.prog 94 := fnC_of Tryz.func94 rfl (by kernel_rfl)
instance : FnC Tryz.prog 95 := fnC_of Tryz.func95 rfl (by kernel_rfl)
instance : FnC Tryz.prog 96 := fnC_of Tryz.func96 rfl (by kernel_rfl)
instance : FnC Tryz.prog 97 := fnC_of Tryz.func97 rfl (by kernel_rfl)
instance : FnC Tryz.prog 98 := fnC_of Tryz.func98 rfl (by kernel_rfl)
instance : FnC Tryz.prog 99 := fnC_of Tryz.func99 rfl (by kernel_rfl)
instance : FnC Tryz.prog 100 := fnC_of Tryz.func100 rfl (by kernel_rfl)
instance : FnC Tryz.prog 101 := fnC_of Tryz.func101 rfl (by kernel_rfl)
instance : FnC Tryz.prog 102 := fnC_of Tryz.func102 rfl (by kernel_rfl)
instance : FnC Tryz.prog 103 := fnC_of Tryz.func103 rfl (by kernel_rfl)
instance : FnC Tryz.prog 104 := fnC_of Tryz.func104 rfl (by kernel_rfl)
instance : FnC Tryz.prog 105 := fnC_of Tryz.func105 rfl (by kernel_rfl)
instance : FnC Tryz.prog 106 := fnC_of Tryz.func106 rfl (by kernel_rfl)
instance : FnC Tryz.prog 107 := fnC_of Tryz.func107 rfl (by kernel_rfl)
instance : FnC Tryz.prog 108 := fnC_of Tryz.func108 rfl (by kernel_rfl)
instance : FnC Tryz.prog 109 := fnC_of Tryz.func109 rfl (by kernel_rfl)
instance : FnC Tryz.prog 110 := fnC_of Tryz.func110 rfl (by kernel_rfl)
instance : FnC Tryz.prog 111 := fnC_of Tryz.func111 rfl (by kernel_rfl)
instance : FnC Tryz.prog 112 := fnC_of Tryz.func112 rfl (by kernel_rfl)
instance : FnC Tryz.prog 113 := fnC_of Tryz.func113 rfl (by kernel_rfl)
instance : FnC Tryz.prog 114 := fnC_of Tryz.func114 rfl (by kernel_rfl)
instance : FnC Tryz.prog 115 := fnC_of Tryz.func115 rfl (by kernel_rfl)
instance : FnC Tryz.prog 116 := fnC_of Tryz.func116 rfl (by kernel_rfl)
instance : FnC Tryz.prog 117 := fnC_of Tryz.func117 rfl (by kernel_rfl)
instance : FnC Tryz.prog 118 := fnC_of Tryz.func118 rfl (by kernel_rfl)
instance : FnC Tryz.prog 119 := fnC_of Tryz.func119 rfl (by kernel_rfl)
instance : FnC Tryz.prog 120 := fnC_of Tryz.func120 rfl (by kernel_rfl)
instance : FnC Tryz.prog 121 := fnC_of Tryz.func121 rfl (by kernel_rfl)
instance : FnC Tryz.prog 122 := fnC_of Tryz.func122 rfl (by kernel_rfl)
instance : FnC Tryz.prog 123 := fnC_of Tryz.func123 rfl (by kernel_rfl)
instance : FnC Tryz.prog 124 := fnC_of Tryz.func124 rfl (by kernel_rfl)
instance : FnC Tryz.prog 125 := fnC_of Tryz.func125 rfl (by kernel_rfl)
instance : FnC Tryz.prog 126 := fnC_of Tryz.func126 rfl (by kernel_rfl)
instance : FnC Tryz.prog 127 := fnC_of Tryz.func127 rfl (by kernel_rfl)
instance : FnC Tryz.prog 128 := fnC_of Tryz.func128 rfl (by kernel_rfl)
instance : FnC Tryz.prog 129 := fnC_of Tryz.func129 rfl (by kernel_rfl)
instance : FnC Tryz.prog 130 := fnC_of Tryz.func130 rfl (by kernel_rfl)
instance : FnC Tryz.prog 131 := fnC_of Tryz.func131 rfl (by kernel_rfl)
instance : FnC Tryz.prog 132 := fnC_of Tryz.func132 rfl (by kernel_rfl)
instance : FnC Tryz.prog 133 := fnC_of Tryz.func133 rfl (by kernel_rfl)
instance : FnC Tryz.prog 134 := fnC_of Tryz.func134 rfl (by kernel_rfl)
instance : FnC Tryz.prog 135 := fnC_of Tryz.func135 rfl (by kernel_rfl)
instance : FnC Tryz.prog 136 := fnC_of Tryz.func136 rfl (by kernel_rfl)
instance : FnC Tryz.prog 137 := fnC_of Tryz.func137 rfl (by kernel_rfl)
instance : FnC Tryz.prog 138 := fnC_of Tryz.func138 rfl (by kernel_rfl)
instance : FnC Tryz.prog 139 := fnC_of Tryz.func139 rfl (by kernel_rfl)
instance : FnC Tryz.prog 140 := fnC_of Tryz.func140 rfl (by kernel_rfl)
instance : FnC Tryz.prog 141 := fnC_of Tryz.func141 rfl (by kernel_rfl)
instance : FnC Tryz.prog 142 := fnC_of Tryz.func142 rfl (by kernel_rfl)
instance : FnC Tryz.prog 143 := fnC_of Tryz.func143 rfl (by kernel_rfl)
instance : FnC Tryz.prog 144 := fnC_of Tryz.func144 rfl (by kernel_rfl)
instance : FnC Tryz.prog 145 := fnC_of Tryz.func145 rfl (by kernel_rfl)
instance : FnC Tryz.prog 146 := fnC_of Tryz.func146 rfl (by kernel_rfl)
instance : FnC Tryz.prog 147 := fnC_of Tryz.func147 rfl (by kernel_rfl)
instance : FnC Tryz.prog 148 := fnC_of Tryz.func148 rfl (by kernel_rfl)
instance : FnC Tryz.prog 149 := fnC_of Tryz.func149 rfl (by kernel_rfl)
instance : FnC Tryz.prog 150 := fnC_of Tryz.func150 rfl (by kernel_rfl)
instance : FnC Tryz.prog 151 := fnC_of Tryz.func151 rfl (by kernel_rfl)
instance : FnC Tryz.prog 152 := fnC_of Tryz.func152 rfl (by kernel_rfl)
instance : FnC Tryz.prog 153 := fnC_of Tryz.func153 rfl (by kernel_rfl)
instance : FnC Tryz.prog 154 := fnC_of Tryz.func154 rfl (by kernel_rfl)
instance : FnC Tryz.prog 155 := fnC_of Tryz.func155 rfl (by kernel_rfl)
instance : FnC Tryz.prog 156 := fnC_of Tryz.func156 rfl (by kernel_rfl)
instance : FnC Tryz.prog 157 := fnC_of Tryz.func157 rfl (by kernel_rfl)
instance : FnC Tryz.prog 158 := fnC_of Tryz.func158 rfl (by kernel_rfl)
instance : FnC Tryz.prog 159 := fnC_of Tryz.func159 rfl (by kernel_rfl)
instance : FnC Tryz.prog 160 := fnC_of Tryz.func160 rfl (by kernel_rfl)
instance : FnC Tryz.prog 161 := fnC_of Tryz.func161 rfl (by kernel_rfl)
instance : FnC Tryz.prog 162 := fnC_of Tryz.func162 rfl (by kernel_rfl)
instance : FnC Tryz.prog 163 := fnC_of Tryz.func163 rfl (by kernel_rfl)
instance : FnC Tryz.prog 164 := fnC_of Tryz.func164 rfl (by kernel_rfl)
instance : FnC Tryz.prog 165 := fnC_of Tryz.func165 rfl (by kernel_rfl)
instance : FnC Tryz.prog 166 := fnC_of Tryz.func166 rfl (by kernel_rfl)
instance : FnC Tryz.prog 167 := fnC_of Tryz.func167 rfl (by kernel_rfl)
instance : FnC Tryz.prog 168 := fnC_of Tryz.func168 rfl (by kernel_rfl)
instance : FnC Tryz.prog 169 := fnC_of Tryz.func169 rfl (by kernel_rfl)
instance : FnC Tryz.prog 170 := fnC_of Tryz.func170 rfl (by kernel_rfl)
instance : FnC Tryz.prog 171 := fnC_of Tryz.func171 rfl (by kernel_rfl)
instance : FnC Tryz.prog 172 := fnC_of Tryz.func172 rfl (by kernel_rfl)
instance : FnC Tryz.prog 173 := fnC_of Tryz.func173 rfl (by kernel_rfl)
instance : FnC Tryz.prog 174 := fnC_of Tryz.func174 rfl (by kernel_rfl)
instance : FnC Tryz.prog 175 := fnC_of Tryz.func175 rfl (by kernel_rfl)
instance : FnC Tryz.prog 176 := fnC_of Tryz.func176 rfl (by kernel_rfl)
instance : FnC Tryz.prog 177 := fnC_of Tryz.func177 rfl (by kernel_rfl)
instance : FnC Tryz.prog 178 := fnC_of Tryz.func178 rfl (by kernel_rfl)
instance : FnC Tryz.prog 179 := fnC_of Tryz.func179 rfl (by kernel_rfl)
instance : FnC Tryz.prog 180 := fnC_of Tryz.func180 rfl (by kernel_rfl)
instance : FnC Tryz.prog 181 := fnC_of Tryz.func181 rfl (by kernel_rfl)
instance : FnC Tryz.prog 182 := fnC_of Tryz.func182 rfl (by kernel_rfl)
instance : FnC Tryz.prog 183 := fnC_of Tryz.func183 rfl (by kernel_rfl)
instance : FnC Tryz.prog 184 := fnC_of Tryz.func184 rfl (by kernel_rfl)
instance : FnC Tryz.prog 185 := fnC_of Tryz.func185 rfl (by kernel_rfl)
instance : FnC Tryz.prog 186 := fnC_of Tryz.func186 rfl (by kernel_rfl)
instance : FnC Tryz.prog 187 := fnC_of Tryz.func187 rfl (by kernel_rfl)
instance : FnC Tryz.prog 188 := fnC_of Tryz.func188 rfl (by kernel_rfl)
instance : FnC Tryz.prog 189 := fnC_of Tryz.func189 rfl (by kernel_rfl)
instance : FnC Tryz.prog 190 := fnC_of Tryz.func190 rfl (by kernel_rfl)
instance : FnC Tryz.prog 191 := fnC_of Tryz.func191 rfl (by kernel_rfl)
instance : FnC Tryz.prog 192 := fnC_of Tryz.func192 rfl (by kernel_rfl)
instance : FnC Tryz.prog 193 := fnC_of Tryz.func193 rfl (by kernel_rfl)
instance : FnC Tryz.prog 194 := fnC_of Tryz.func194 rfl (by kernel_rfl)
instance : FnC Tryz.prog 195 := fnC_of Tryz.func195 rfl (by kernel_rfl)
instance : FnC Tryz.prog 196 := fnC_of Tryz.func196 rfl (by kernel_rfl)
instance : FnC Tryz.prog 197 := fnC_of Tryz.func197 rfl (by kernel_rfl)
instance : FnC Tryz.prog 198 := fnC_of Tryz.func198 rfl (by kernel_rfl)
instance : FnC Tryz.prog 199 := fnC_of Tryz.func199 rfl (by kernel_rfl)
instance : FnC Tryz.prog 200 := fnC_of Tryz.func200 rfl (by kernel_rfl)
instance : FnC Tryz.prog 201 := fnC_of Tryz.func201 rfl (by kernel_rfl)
instance : FnC Tryz.prog 202 := fnC_of Tryz.func202 rfl (by kernel_rfl)
instance : FnC Tryz.prog 203 := fnC_of Tryz.func203 rfl (by kernel_rfl)
instance : FnC Tryz.prog 204 := fnC_of Tryz.func204 rfl (by kernel_rfl)
instance : FnC Tryz.prog 205 := fnC_of Tryz.func205 rfl (by kernel_rfl)
instance : FnC Tryz.prog 206 := fnC_of Tryz.func206 rfl (by kernel_rfl)
instance : FnC Tryz.prog 207 := fnC_of Tryz.func207 rfl (by kernel_rfl)
instance : FnC Tryz.prog 208 := fnC_of Tryz.func208 rfl (by kernel_rfl)
instance : FnC Tryz.prog 209 := fnC_of Tryz.func209 rfl (by kernel_rfl)
instance : FnC Tryz.prog 210 := fnC_of Tryz.func210 rfl (by kernel_rfl)
instance : FnC Tryz.prog 211 := fnC_of Tryz.func211 rfl (by kernel_rfl)
instance : FnC Tryz.prog 212 := fnC_of Tryz.func212 rfl (by kernel_rfl)
instance : FnC Tryz.prog 213 := fnC_of Tryz.func213 rfl (by kernel_rfl)
instance : FnC Tryz.prog 214 := fnC_of Tryz.func214 rfl (by kernel_rfl)
instance : FnC Tryz.prog 215 := fnC_of Tryz.func215 rfl (by kernel_rfl)
instance : FnC Tryz.prog 216 := fnC_of Tryz.func216 rfl (by kernel_rfl)
instance : FnC Tryz.prog 217 := fnC_of Tryz.func217 rfl (by kernel_rfl)
instance : FnC Tryz.prog 218 := fnC_of Tryz.func218 rfl (by kernel_rfl)
end
section
theorem markIntS_ok {Hw : Hp} {va : Value} (a : List Int) (k : Int) (hk : 0 ≤ k ∧ k ≤ 4611686018427387904) (ha : Ints Hw va a) (hlw : Liq Hw) : SpecM Tryz.prog 25 [va, .int .i64 k] Hw [] (fun Hq _ vq => Mk Hw Hq ∧ vq = .int .i64 (k + a.length) ∧ Ints Hq va (markL k a.length)) := by
 refine specM_of Tryz.func25 rfl rfl rfl (fun B => ?_)
 refine cS (cr (sg rfl (ln (qc (cS (cS (cr (sg rfl (ln (qc (bl (kc_loopL (A := Nat × Int × Hp) (fun zz => (zz.1 ≤ a.length) ∧ (zz.2.1 = k + (zz.1 : Int)) ∧ Mk Hw zz.2.2 ∧ (Ints zz.2.2 va (markTo k a zz.1))) (fun zz => a.length - zz.1) (fun zz => [zz.2.2]) (fun zz => [(5, .int .i64 (zz.1 : Int)), (1, .int .i64 zz.2.1)]) (0, k, Hw) (pk [0, 4] rfl) (pk [5, 1] rfl) rfl ⟨Nat.zero_le _, by simp, (Mk.refl Hw), (by simpa [markTo, markL] using ha)⟩ ?_))))))))))))
 rintro ⟨i, l, H3⟩ hJ6
 obtain ⟨hk1, hi2, m4, e5⟩ : (i ≤ a.length) ∧ (l = k + (i : Int)) ∧ Mk Hw H3 ∧ (Ints H3 va (markTo k a i)) := hJ6
 change KC _ _ (_) [H3] _ ([(5, .int .i64 (i : Int)), (1, .int .i64 l)] ++ _)
 refine cS (cS (cr (mv rfl (mv rfl (le9 rfl ha (fun l7 => ?_))))))
 refine ls9 rfl rfl ?_
 refine ln (qc (ci9 rfl (fun c8 => ?_) (fun c8 => ?_)))
 ·refine sk (qc (cS (bl (cS (cr (mv rfl (mv rfl (mv rfl (kl_inP rfl rfl e5 (by rw [mark_len (by omega)]; omega) (fun p9 s11 a10 => ?_))))))))))
  refine kl_stS rfl rfl s11 e5 (by rw [mark_len (by omega)]; omega) (Mk.liq m4 hlw) (fun H12 m13 e14 => ?_)
  refine ln (qc (cr (mv rfl (ad9 rfl rfl (by omega) ?_))))
  refine sg rfl (ln (qc (cr (mv rfl (ic9 rfl rfl (by omega) ?_)))))
  refine sg rfl (ln (rL ((i + 1), (l + (1 : Int)), H12) (by omega) (⟨by omega, by dsimp only; omega, (Mk.trans m4 m13), (mark_step (a := a) (i := i) hi2 (by omega) ▸ e14)⟩) (pk [5, 1] rfl) (pk [0, 4] rfl) rfl slr9))
 ·refine ex9 (qc (cS (cr (mv rfl (sg rfl (ln (qc (rt ?_))))))))
  exact kq_retM rfl rfl H3 noHp (Mk.dom m4) (fr_no _) ⟨m4, congrArg (Value.int .i64) (by omega), mark_end (a := a) (k := k) (i := i) (by omega) ▸ e5⟩
theorem markIntSS_ok {Hw : Hp} {va : Value} (a : List (List Int)) (k : Int) (hk : 0 ≤ k ∧ k + (rsum a : Nat) ≤ 4611686018427387904) (ha : Rows Hw va a) (hlw : Liq Hw) : SpecM Tryz.prog 100 [va, .int .i64 k] Hw [] (fun Hq _ vq => Mk Hw Hq ∧ vq = .int .i64 (k + (rsum a : Nat))) := by
 refine specM_of Tryz.func100 rfl rfl rfl (fun B => ?_)
 refine cS (cr (sg rfl (ln (qc (cS (cS (cr (sg rfl (ln (qc (bl (kc_loopL (A := Nat × Int × Hp) (fun zz => (zz.1 ≤ a.length) ∧ (zz.2.1 = k + (rsum (a.take zz.1) : Nat)) ∧ Mk Hw zz.2.2) (fun zz => a.length - zz.1) (fun zz => [zz.2.2]) (fun zz => [(5, .int .i64 (zz.1 : Int)), (1, .int .i64 zz.2.1)]) (0, k, Hw) (pk [0, 4] rfl) (pk [5, 1] rfl) rfl ⟨Nat.zero_le _, by simp [rsum], (Mk.refl Hw)⟩ ?_))))))))))))
 rintro ⟨i, l, H3⟩ hJ5
 obtain ⟨hk1, hi2, m4⟩ : (i ≤ a.length) ∧ (l = k + (rsum (a.take i) : Nat)) ∧ Mk Hw H3 := hJ5
 change KC _ _ (_) [H3] _ ([(5, .int .i64 (i : Int)), (1, .int .i64 l)] ++ _)
 have hr := rsum_le a i
 refine cS (cS (cr (mv rfl (mv rfl (le9 rfl ha (fun l6 => ?_))))))
 refine ls9 rfl rfl ?_
 refine ln (qc (ci9 rfl (fun c7 => ?_) (fun c7 => ?_)))
 ·refine sk (qc (cS (bl (cr (mv rfl (mv rfl ?_))))))
  obtain ⟨q10, h11, l12⟩ := Mk.rows m4 ha
  have l12n := len_of l12
  have l12e := getD_len l12 i
  refine kl_inS rfl rfl h11 (by omega) (fun p8 u13 h14 a9 => ?_)
  refine kl_ldG rfl a9 ?_
  refine mv rfl (kl_callM rfl rfl (markIntS_ok (q10.getD i []) l (by first | assumption | omega) h14 (Mk.liq m4 hlw)) (fun v15 H16 K17 f18 h19 d20 => ?_))
  obtain ⟨m21, rfl, _⟩ := h19
  refine sg rfl (ln (qc (cr (mv rfl (ic9 rfl rfl (by omega) ?_)))))
  refine sg rfl (ln (rL ((i + 1), (l + (q10.getD i []).length), H16) (by omega) (⟨by omega, (by dsimp only; rw [rsum_step (by omega)]; omega), (Mk.trans m4 m21)⟩) (pk [5, 1] rfl) (pk [0, 4] rfl) rfl (.cons _ slr9)))
 ·refine ex9 (qc (cS (cr (mv rfl (sg rfl (ln (qc (rt ?_))))))))
  exact kq_retM rfl rfl H3 noHp (Mk.dom m4) (fr_no _) ⟨m4, congrArg (Value.int .i64) (by rw [List.take_of_length_le (by omega)] at *; omega)⟩
theorem markConstraintS_ok {Hw : Hp} {va : Value} (a : List Con) (k : Int) (hk : 0 ≤ k ∧ k + (msum a : Nat) ≤ 4611686018427387904) (ha : Cons Hw va a) (hlw : Liq Hw) : SpecM Tryz.prog 61 [va, .int .i64 k] Hw [] (fun Hq _ vq => Mk Hw Hq ∧ vq = .int .i64 (k + (msum a : Nat))) := by
 refine specM_of Tryz.func61 rfl rfl rfl (fun B => ?_)
 refine cS (cr (sg rfl (ln (qc (cS (cS (cr (sg rfl (ln (qc (bl (kc_loopL (A := Nat × Int × Hp) (fun zz => (zz.1 ≤ a.length) ∧ (zz.2.1 = k + (msum (a.take zz.1) : Nat)) ∧ Mk Hw zz.2.2) (fun zz => a.length - zz.1) (fun zz => [zz.2.2]) (fun zz => [(5, .int .i64 (zz.1 : Int)), (1, .int .i64 zz.2.1)]) (0, k, Hw) (pk [0, 4] rfl) (pk [5, 1] rfl) rfl ⟨Nat.zero_le _, by simp [msum], (Mk.refl Hw)⟩ ?_))))))))))))
 rintro ⟨i, l, H3⟩ hJ5
 obtain ⟨hk1, hi2, m4⟩ : (i ≤ a.length) ∧ (l = k + (msum (a.take i) : Nat)) ∧ Mk Hw H3 := hJ5
 change KC _ _ (_) [H3] _ ([(5, .int .i64 (i : Int)), (1, .int .i64 l)] ++ _)
 refine cS (cS (cr (mv rfl (mv rfl (le9 rfl ha (fun l6 => ?_))))))
 refine ls9 rfl rfl ?_
 refine ln (qc (ci9 rfl (fun c7 => ?_) (fun c7 => ?_)))
 ·have hm := msum_le a (i + 1)
  rw [msum_step (by omega)] at hm
  have hc : mcN (a.getD i nilCon) = 2 + (a.getD i nilCon).vars.length + (a.getD i nilCon).args.length + rsum (a.getD i nilCon).rows := rfl
  refine sk (qc (cS (bl (cS (cr (mv rfl (mv rfl (mv rfl ?_))))))))
  obtain ⟨q10, h11, l12⟩ := Mk.cons m4 ha
  have l12n := len_of l12
  have l12e := getD_con l12 i
  refine kl_inC rfl rfl h11 (by omega) (fun p8 u13 u14 u15 h16 h17 h18 a9 => ?_)
  refine fd9 rfl a9 (fun p19 a20 => ?_)
  refine kl_stA rfl rfl a20 (Mk.liq m4 hlw) (fun H21 m22 e23 => ?_)
  refine ln (qc (cS (cr (mv rfl (ad9 rfl rfl (by omega) ?_)))))
  refine sg rfl (ln (qc (cS (cr (mv rfl (mv rfl ?_))))))
  obtain ⟨q26, h27, l28⟩ := Mk.cons (Mk.trans m4 m22) ha
  have l28n := len_of l28
  have l28e := getD_con l28 i
  refine kl_inC rfl rfl h27 (by omega) (fun p24 u29 u30 u31 h32 h33 h34 a25 => ?_)
  refine fd9 rfl a25 (fun p35 a36 => ?_)
  refine kl_ldG rfl a36 ?_
  refine mv rfl (kl_callM rfl rfl (markIntS_ok ((q26.getD i nilCon).vars) (l + (1 : Int)) (by first | assumption | omega) h32 (Mk.liq (Mk.trans m4 m22) hlw)) (fun v37 H38 K39 f40 h41 d42 => ?_))
  obtain ⟨m43, rfl, _⟩ := h41
  refine sg rfl (ln (qc (cS (cr (mv rfl (mv rfl ?_))))))
  obtain ⟨q46, h47, l48⟩ := Mk.cons (Mk.trans (Mk.trans m4 m22) m43) ha
  have l48n := len_of l48
  have l48e := getD_con l48 i
  refine kl_inC rfl rfl h47 (by omega) (fun p44 u49 u50 u51 h52 h53 h54 a45 => ?_)
  refine fd9 rfl a45 (fun p55 a56 => ?_)
  refine kl_ldG rfl a56 ?_
  refine mv rfl (kl_callM rfl rfl (markIntS_ok ((q46.getD i nilCon).args) ((l + (1 : Int)) + ((q26.getD i nilCon).vars).length) (by first | assumption | omega) h53 (Mk.liq (Mk.trans (Mk.trans m4 m22) m43) hlw)) (fun v57 H58 K59 f60 h61 d62 => ?_))
  obtain ⟨m63, rfl, _⟩ := h61
  refine sg rfl (ln (qc (cS (cr (mv rfl (mv rfl (mv rfl ?_)))))))
  obtain ⟨q66, h67, l68⟩ := Mk.cons (Mk.trans (Mk.trans (Mk.trans m4 m22) m43) m63) ha
  have l68n := len_of l68
  have l68e := getD_con l68 i
  refine kl_inC rfl rfl h67 (by omega) (fun p64 u69 u70 u71 h72 h73 h74 a65 => ?_)
  refine fd9 rfl a65 (fun p75 a76 => ?_)
  refine kl_stA rfl rfl a76 (Mk.liq (Mk.trans (Mk.trans (Mk.trans m4 m22) m43) m63) hlw) (fun H77 m78 e79 => ?_)
  refine ln (qc (cS (cr (mv rfl (ad9 rfl rfl (by omega) ?_)))))
  refine sg rfl (ln (qc (cr (mv rfl (mv rfl ?_)))))
  obtain ⟨q82, h83, l84⟩ := Mk.cons (Mk.trans (Mk.trans (Mk.trans (Mk.trans m4 m22) m43) m63) m78) ha
  have l84n := len_of l84
  have l84e := getD_con l84 i
  refine kl_inC rfl rfl h83 (by omega) (fun p80 u85 u86 u87 h88 h89 h90 a81 => ?_)
  refine fd9 rfl a81 (fun p91 a92 => ?_)
  refine kl_ldG rfl a92 ?_
  refine mv rfl (kl_callM rfl rfl (markIntSS_ok ((q82.getD i nilCon).rows) ((((l + (1 : Int)) + ((q26.getD i nilCon).vars).length) + ((q46.getD i nilCon).args).length) + (1 : Int)) (by first | assumption | omega) h90 (Mk.liq (Mk.trans (Mk.trans (Mk.trans (Mk.trans m4 m22) m43) m63) m78) hlw)) (fun v93 H94 K95 f96 h97 d98 => ?_))
  obtain ⟨m99, rfl⟩ := h97
  refine sg rfl (ln (qc (cr (mv rfl (ic9 rfl rfl (by omega) ?_)))))
  refine sg rfl (ln (rL ((i + 1), (((((l + (1 : Int)) + ((q26.getD i nilCon).vars).length) + ((q46.getD i nilCon).args).length) + (1 : Int)) + (rsum ((q82.getD i nilCon).rows) : Nat)), H94) (by omega) (⟨by omega, (by dsimp only; rw [msum_step (by omega)]; omega), (Mk.trans (Mk.trans (Mk.trans (Mk.trans (Mk.trans m4 m22) m43) m63) m78) m99)⟩) (pk [5, 1] rfl) (pk [0, 4] rfl) rfl (.cons _ (.cons _ (.cons _ slr9)))))
 ·refine ex9 (qc (cS (cr (mv rfl (sg rfl (ln (qc (rt ?_))))))))
  exact kq_retM rfl rfl H3 noHp (Mk.dom m4) (fr_no _) ⟨m4, congrArg (Value.int .i64) (by rw [List.take_of_length_le (by omega)] at *; omega)⟩
theorem markModel_ok {Hw : Hp} {vmd : Value} {vmc : Value} (m : Mod) (k : Int) (hk : 0 ≤ k ∧ k + m.doms.length + (msum m.cons : Nat) ≤ 4611686018427387904) (hmd : Ints Hw vmd m.doms) (hmc : Cons Hw vmc m.cons) (hlw : Liq Hw) : SpecM Tryz.prog 24 [.agg #[vmd, vmc], .int .i64 k] Hw [] (fun Hq _ vq => Mk Hw Hq ∧ vq = .int .i64 (k + m.doms.length + (msum m.cons : Nat))) := by
 refine specM_of Tryz.func24 rfl rfl rfl (fun B => ?_)
 refine cS (cr (kl_box rfl rfl (fun p1 H2 f3 a4 => ?_)))
 refine sg rfl (ln (qc (cS (cr (fd9 rfl ‹_› (fun p5 a6 => ?_))))))
 refine ld rfl ‹_› (mv rfl (kl_callM rfl rfl (markIntS_ok m.doms k (by first | assumption | omega) hmd (Mk.liq (Mk.refl Hw) hlw)) (fun v7 H8 K9 f10 h11 d12 => ?_)))
 obtain ⟨m13, rfl, _⟩ := h11
 refine sg rfl (ln (qc (cS (cr (fd9 rfl ‹_› (fun p14 a15 => ?_))))))
 refine ld rfl ‹_› (mv rfl ?_)
 obtain ⟨q16, h17, l18⟩ := Mk.cons (Mk.trans (Mk.refl Hw) m13) hmc
 have l18e := msum_of l18
 have l18n := len_of l18
 refine kl_callM rfl rfl (markConstraintS_ok q16 (k + m.doms.length) (by first | assumption | omega) h17 (Mk.liq (Mk.trans (Mk.refl Hw) m13) hlw)) (fun v19 H20 K21 f22 h23 d24 => ?_)
 obtain ⟨m25, rfl⟩ := h23
 refine sg rfl (ln (qc (cS (cr (mv rfl (sg rfl (ln (qc (rt ?_)))))))))
 exact kq_retM rfl rfl H20 noHp (Mk.dom (Mk.trans (Mk.trans (Mk.refl Hw) m13) m25)) (fr_no _) ⟨(Mk.trans (Mk.trans (Mk.refl Hw) m13) m25), congrArg (Value.int .i64) (by omega)⟩
end
section
theorem markLt_ok {Ha : Hp} {va : Value} (xs : List Lit) (k : Int) (hk : 0 ≤ k ∧ k + 3 * (xs.length : Int) ≤ 4611686018427387904) (oa : OwnL 100 3 Ha noHp LitV va xs) : SpecT Tryz.prog 62 [va, .int .i64 k] [Ha] [] (fun vq L1 Ln _ => ∃ (Hq : Hp), L1 = [Hq] ∧ Ln = [] ∧ vq = .int .i64 (k + 3 * (xs.length : Int)) ∧ OwnL 100 3 Hq noHp LitV va (markLt k xs)) := by
 have hlen := oa.len
 refine specT_of Tryz.func62 rfl rfl rfl (fun B => ?_)
 refine cS (cr (sg rfl (ln (qc (cS (cS (cr (sg rfl (ln (qc (bl (kc_loopL (A := Nat × Int × List Lit × Hp) (fun zz => (zz.1 ≤ xs.length) ∧ (zz.2.1 = k + 3 * (zz.1 : Int) ∧ zz.2.2.1 = mlTo k xs zz.1) ∧ OwnL 100 3 zz.2.2.2 noHp LitV va zz.2.2.1) (fun zz => xs.length - zz.1) (fun zz => [zz.2.2.2]) (fun zz => [(5, .int .i64 (zz.1 : Int)), (1, .int .i64 zz.2.1)]) (0, k, xs, Ha) (pk [0, 4] rfl) (pk [5, 1] rfl) rfl ⟨Nat.zero_le _, ⟨by simp, (mlTo_0 _ _).symm⟩, oa⟩ ?_))))))))))))
 rintro ⟨i, l, ys, H3⟩ hJ6
 obtain ⟨hk1, hi2, o4⟩ : (i ≤ xs.length) ∧ (l = k + 3 * (i : Int) ∧ ys = mlTo k xs i) ∧ OwnL 100 3 H3 noHp LitV va ys := hJ6
 change KC _ _ (_) [H3] _ ([(5, .int .i64 (i : Int)), (1, .int .i64 l)] ++ _)
 have hll := hi2.1
 have hyl : ys.length = xs.length := (by rw [hi2.2]; exact mlTo_len hk1)
 refine cS (cS (cr (mv rfl (mv rfl (lL rfl o4 (fun l7 => ?_))))))
 refine ls9 rfl rfl ?_
 refine ln (qc (ci9 rfl (fun c8 => ?_) (fun c8 => ?_)))
 ·refine sk (qc (cS (bl (cS (cr (mv rfl (mv rfl (mv rfl (kl_ixLn rfl rfl ‹_› (by first | omega | (simp only [List.length_set]; omega)) (fun p9 q10 => ?_))))))))))
  refine kl_fdQ rfl ‹_› (fun p11 a12 => ?_)
  refine kl_stQ (i := i) (j := 0) (⟨l, (ys.getD i nilLit).val, (ys.getD i nilLit).neg⟩ : Lit) rfl rfl o4 a12 (by first | omega | (simp only [List.length_set]; omega)) (by decide) rfl rfl rfl (fun H13 o14 f15 => ?_)
  refine cg [H13] rfl ?_
  refine ln (qc (cS (cr (mv rfl (ad9 rfl rfl (by (have h9 := hi2.1; omega)) ?_)))))
  refine sg rfl (ln (qc (cS (cr (mv rfl (mv rfl (mv rfl (kl_ixLn rfl rfl ‹_› (by first | omega | (simp only [List.length_set]; omega)) (fun p17 q18 => ?_)))))))))
  refine kl_fdQ rfl ‹_› (fun p19 a20 => ?_)
  refine kl_stQ (i := i) (j := 1) (⟨((ys.set i (⟨l, (ys.getD i nilLit).val, (ys.getD i nilLit).neg⟩ : Lit)).getD i nilLit).var, (l + (1 : Int)), ((ys.set i (⟨l, (ys.getD i nilLit).val, (ys.getD i nilLit).neg⟩ : Lit)).getD i nilLit).neg⟩ : Lit) rfl rfl o14 a20 (by first | omega | (simp only [List.length_set]; omega)) (by decide) rfl rfl rfl (fun H21 o22 f23 => ?_)
  refine cg [H21] rfl ?_
  refine ln (qc (cS (cr (mv rfl (ad9 rfl rfl (by (have h9 := hi2.1; omega)) ?_)))))
  refine sg rfl (ln (qc (cS (cr (mv rfl (mv rfl (mv rfl ?_)))))))
  have h25 := tmod_in (m := ((l + (1 : Int)) + (1 : Int))) (k := (3 : Int)) (by omega) (by omega)
  refine kl_rem rfl rfl (by omega) ?_
  refine eq9 rfl rfl ?_
  refine kl_ixLn rfl rfl ‹_› (by first | omega | (simp only [List.length_set]; omega)) (fun p26 q27 => ?_)
  refine kl_fdQ rfl ‹_› (fun p28 a29 => ?_)
  refine kl_stQ (i := i) (j := 2) (⟨(((ys.set i (⟨l, (ys.getD i nilLit).val, (ys.getD i nilLit).neg⟩ : Lit)).set i (⟨((ys.set i (⟨l, (ys.getD i nilLit).val, (ys.getD i nilLit).neg⟩ : Lit)).getD i nilLit).var, (l + (1 : Int)), ((ys.set i (⟨l, (ys.getD i nilLit).val, (ys.getD i nilLit).neg⟩ : Lit)).getD i nilLit).neg⟩ : Lit)).getD i nilLit).var, (((ys.set i (⟨l, (ys.getD i nilLit).val, (ys.getD i nilLit).neg⟩ : Lit)).set i (⟨((ys.set i (⟨l, (ys.getD i nilLit).val, (ys.getD i nilLit).neg⟩ : Lit)).getD i nilLit).var, (l + (1 : Int)), ((ys.set i (⟨l, (ys.getD i nilLit).val, (ys.getD i nilLit).neg⟩ : Lit)).getD i nilLit).neg⟩ : Lit)).getD i nilLit).val, decide ((Int.tmod ((l + (1 : Int)) + (1 : Int)) (3 : Int)) = (0 : Int))⟩ : Lit) rfl rfl o22 a29 (by first | omega | (simp only [List.length_set]; omega)) (by decide) rfl rfl rfl (fun H30 o31 f32 => ?_)
  refine cg [H30] rfl ?_
  refine ln (qc (cr (mv rfl (ad9 rfl rfl (by (have h9 := hi2.1; omega)) ?_))))
  refine sg rfl (ln (qc (cr (mv rfl (ic9 rfl rfl (by omega) ?_)))))
  refine sg rfl (ln (tk [H30] ?_))
  refine rL ((i + 1), (((l + (1 : Int)) + (1 : Int)) + (1 : Int)), (((ys.set i (⟨l, (ys.getD i nilLit).val, (ys.getD i nilLit).neg⟩ : Lit)).set i (⟨((ys.set i (⟨l, (ys.getD i nilLit).val, (ys.getD i nilLit).neg⟩ : Lit)).getD i nilLit).var, (l + (1 : Int)), ((ys.set i (⟨l, (ys.getD i nilLit).val, (ys.getD i nilLit).neg⟩ : Lit)).getD i nilLit).neg⟩ : Lit)).set i (⟨(((ys.set i (⟨l, (ys.getD i nilLit).val, (ys.getD i nilLit).neg⟩ : Lit)).set i (⟨((ys.set i (⟨l, (ys.getD i nilLit).val, (ys.getD i nilLit).neg⟩ : Lit)).getD i nilLit).var, (l + (1 : Int)), ((ys.set i (⟨l, (ys.getD i nilLit).val, (ys.getD i nilLit).neg⟩ : Lit)).getD i nilLit).neg⟩ : Lit)).getD i nilLit).var, (((ys.set i (⟨l, (ys.getD i nilLit).val, (ys.getD i nilLit).neg⟩ : Lit)).set i (⟨((ys.set i (⟨l, (ys.getD i nilLit).val, (ys.getD i nilLit).neg⟩ : Lit)).getD i nilLit).var, (l + (1 : Int)), ((ys.set i (⟨l, (ys.getD i nilLit).val, (ys.getD i nilLit).neg⟩ : Lit)).getD i nilLit).neg⟩ : Lit)).getD i nilLit).val, decide ((Int.tmod ((l + (1 : Int)) + (1 : Int)) (3 : Int)) = (0 : Int))⟩ : Lit)), H30) (by omega) (⟨by omega, ⟨by dsimp only; omega, by dsimp only; rw [ml_set (by omega) rfl rfl rfl, hi2.2, ← mlTo_step (by omega), ← hll]; rfl⟩, o31⟩) (pk [5, 1] rfl) (pk [0, 4] rfl) rfl slr9
 ·refine ex9 (qc (cS (cr (mv rfl (sg rfl (ln (qc (rt ?_))))))))
  exact kq_retT rfl rfl [H3] [] noHp frn (fr_no _) ⟨H3, rfl, rfl, congrArg (Value.int .i64) (by have h9 := hi2.1; omega), OwnL.cast (by rw [hi2.2]; exact mlTo_end (by omega)) o4⟩
theorem markLS_ok {H K : Hp} {v : Value} {us : List Value} (xss : List (List Lit)) (k : Int) (hk : 0 ≤ k ∧ k + 3 * ((lsum xss : Nat) : Int) ≤ 4611686018427387904) (hm : LMat 69 100 H K v us xss) : SpecT Tryz.prog 26 [v, .int .i64 k] [K] [H] (fun vq L1 Ln _ => ∃ K2, L1 = [K2] ∧ Ln = [] ∧ vq = .int .i64 (k + 3 * ((lsum xss : Nat) : Int)) ∧ LMat 69 100 H K2 v us (markLS k xss)) := by
 refine specT_of Tryz.func26 rfl rfl rfl (fun B => ?_)
 refine cS (cr (sg rfl (ln (qc (cS (cS (cr (sg rfl (ln (qc (bl (kc_loopL (A := Nat × Int × List (List Lit) × Hp) (fun zz => (zz.1 ≤ xss.length) ∧ (zz.2.1 = k + 3 * ((lsum (xss.take zz.1) : Nat) : Int) ∧ zz.2.2.1 = msTo k xss zz.1) ∧ LMat 69 100 H zz.2.2.2 v us zz.2.2.1) (fun zz => xss.length - zz.1) (fun zz => [zz.2.2.2]) (fun zz => [(5, .int .i64 (zz.1 : Int)), (1, .int .i64 zz.2.1)]) (0, k, xss, K) (pk [0, 4] rfl) (pk [5, 1] rfl) rfl ⟨Nat.zero_le _, ⟨by simp [lsum], (msTo_0 _ _).symm⟩, hm⟩ ?_))))))))))))
 rintro ⟨i, l, ys, K3⟩ hJ5
 obtain ⟨hk1, hi2, o4⟩ : (i ≤ xss.length) ∧ (l = k + 3 * ((lsum (xss.take i) : Nat) : Int) ∧ ys = msTo k xss i) ∧ LMat 69 100 H K3 v us ys := hJ5
 change KC _ _ (_) [K3] _ ([(5, .int .i64 (i : Int)), (1, .int .i64 l)] ++ _)
 have hyl : ys.length = xss.length := (by rw [hi2.2]; exact msTo_len hk1)
 have hll := hi2.1
 have hcs := ms_b hk hk1
 have hya : ∀ h : i < xss.length, ys.getD i [] = xss.getD i [] := fun h => (by rw [hi2.2]; exact msTo_at h)
 refine cS (cS (cr (mv rfl (mv rfl (kl_lmLen rfl o4 (fun l6 => ?_))))))
 refine ls9 rfl rfl ?_
 refine ln (qc (ci9 rfl (fun c7 => ?_) (fun c7 => ?_)))
 ·have hyb := hcs (by omega)
  rw [← hya (by omega), ← hll] at hyb
  refine sk (qc (cS (bl (cr (mv rfl (mv rfl (kl_lmIx (i := i) rfl rfl o4 (by omega) (fun p8 q9 => ?_))))))))
  refine kl_lmLde rfl ‹_› o4 (by omega) ?_
  refine mv rfl ?_
  obtain ⟨K10, K11, rfl, a12, o13, b14⟩ := SepL.split (LMat.sp o4) (by omega : i < ys.length)
  refine kl_split K10 K11 a12 ?_
  refine cT rfl rfl (markLt_ok (ys.getD i []) l (by omega) o13) (fun v15 L1 Ln K16 h17 g18 g19 => ?_)
  obtain ⟨H20, rfl, rfl, rfl, o21⟩ := h17
  refine nm ?_
  refine kl_apart H20 K11 (fun a22 => ?_)
  refine kl_mrg H20 K11 ?_
  have m23 := LMat.put o4 (b14 H20 _ a22 o21)
  refine sg rfl (ln (qc (cr (mv rfl (ic9 rfl rfl (by omega) ?_)))))
  refine sg rfl (ln (tk [(orHp H20 K11)] ?_))
  refine rL ((i + 1), (l + 3 * ((ys.getD i []).length : Int)), (ys.set i (markLt l (ys.getD i []))), (orHp H20 K11)) (by omega) (⟨by omega, ⟨by dsimp only; rw [hi2.2, msTo_at (by omega), lsum_step (by omega)]; omega, by dsimp only; rw [hi2.2, msTo_at (by omega), hll]; exact msTo_step (by omega)⟩, m23⟩) (pk [5, 1] rfl) (pk [0, 4] rfl) rfl slr9
 ·refine ex9 (qc (cS (cr (mv rfl (sg rfl (ln (qc (rt ?_))))))))
  exact kq_retT rfl rfl [K3] [] noHp frn (fr_no _) ⟨K3, rfl, rfl, congrArg (Value.int .i64) (by rw [hi2.1, List.take_of_length_le (by omega)]), LMat.castX (by rw [hi2.2]; exact msTo_end (by omega)) o4⟩
theorem heldLt_ok {Ha : Hp} {va : Value} (a : List Lit) (k : Int) (hk : 0 ≤ k ∧ k + 3 * (a.length : Int) ≤ 4611686018427387904) (ha : Lits Ha va a) : SpecP Tryz.prog 63 [va, .int .i64 k] [Ha] (.int .i64 (heldLt a k)) := by
 refine spec_of Tryz.func63 rfl rfl rfl (fun B => ?_)
 refine cS (cr (sg rfl (ln (qc (cS (cS (cr (sg rfl (ln (qc (bl (kc_loop0 (A := Nat × Int) (fun zz => (zz.1 ≤ a.length) ∧ (HlI a k zz.1 zz.2)) (fun zz => a.length - zz.1) (fun zz => [(5, .int .i64 (zz.1 : Int)), (1, .int .i64 zz.2)]) (0, k) (pc 0 rfl pn) (pk [5, 1] rfl) ⟨Nat.zero_le _, hl_0⟩ ?_))))))))))))
 rintro ⟨i, l⟩ hJ3
 obtain ⟨hk1, hi2⟩ : (i ≤ a.length) ∧ (HlI a k i l) := hJ3
 change KC _ _ (_) _ _ ([(5, .int .i64 (i : Int)), (1, .int .i64 l)] ++ _)
 have hlv := hi2.v
 refine cS (cS (cr (mv rfl (mv rfl (le9 rfl ‹_› (fun l4 => ?_))))))
 refine ls9 rfl rfl ?_
 refine ln (qc (ci9 rfl (fun c5 => ?_) (fun c5 => ?_)))
 ·refine sk (qc (cS (bl (cS (cS (cr (mv rfl (mv rfl (kl_inQ rfl rfl ‹_› (by omega) (fun p6 a7 => ?_))))))))))
  refine fd9 rfl ‹_› (fun p8 a9 => ?_)
  refine ld rfl ‹_› (mv rfl (kl_neq rfl rfl ?_))
  refine ln (qc (ci9 rfl (fun c10 => ?_) (fun c10 => ?_)))
  ·refine cS (cr (sg rfl (ln (qc (rt (kq_retP rfl rfl (congrArg (Value.int .i64) ?_)))))))
   exact hl_no1 hi2 (by omega) ‹_›
  ·refine sk (qc (cS (cr (mv rfl (ad9 rfl rfl (by omega) ?_)))))
   refine sg rfl (ln (qc (cS (cS (cr (mv rfl (mv rfl (kl_inQ rfl rfl ‹_› (by omega) (fun p11 a12 => ?_)))))))))
   refine fd9 rfl ‹_› (fun p13 a14 => ?_)
   refine ld rfl ‹_› (mv rfl (kl_neq rfl rfl ?_))
   refine ln (qc (ci9 rfl (fun c15 => ?_) (fun c15 => ?_)))
   ·refine cS (cr (sg rfl (ln (qc (rt (kq_retP rfl rfl (congrArg (Value.int .i64) ?_)))))))
    exact hl_no2 hi2 (by omega) ‹_›
   ·refine sk (qc (cS (cr (mv rfl (ad9 rfl rfl (by omega) ?_)))))
    refine sg rfl (ln (qc (cS (cS (cr (mv rfl (mv rfl (kl_inQ rfl rfl ‹_› (by omega) (fun p16 a17 => ?_)))))))))
    refine fd9 rfl ‹_› (fun p18 a19 => ?_)
    refine ld rfl ‹_› (mv rfl ?_)
    have h20 := tmod_in (m := ((l + (1 : Int)) + (1 : Int))) (k := (3 : Int)) (by omega) (by omega)
    refine kl_rem rfl rfl (by omega) ?_
    refine eq9 rfl rfl ?_
    refine kl_bne rfl rfl ?_
    refine ln (qc (cd9 rfl (fun c21 => ?_) (fun c21 => ?_)))
    ·have c21r := c21
     try simp only [smpE] at c21
     refine cS (cr (sg rfl (ln (qc (rt (kq_retP rfl rfl (congrArg (Value.int .i64) ?_)))))))
     exact hl_no3 hi2 (by omega) ‹_›
    ·have c21r := c21
     try simp only [smpE] at c21
     refine sk (qc (cr (mv rfl (ad9 rfl rfl (by omega) ?_))))
     refine sg rfl (ln (qc (cr (mv rfl (ic9 rfl rfl (by omega) ?_)))))
     refine sg rfl (ln (kq_round0 ((i + 1), (((l + (1 : Int)) + (1 : Int)) + (1 : Int))) (by omega) (⟨by omega, (hl_step hi2 (by omega) ‹_› ‹_› ‹_›)⟩) (pk [5, 1] rfl) (pc 0 rfl pn) slr9))
 ·refine ex9 (qc (cS (cr (mv rfl (sg rfl (ln (qc (rt (kq_retP rfl rfl (congrArg (Value.int .i64) ?_))))))))))
  exact hl_end hi2 (by omega)
theorem heldLS_ok {Ha : Hp} {va : Value} (a : List (List Lit)) (k : Int) (hk : 0 ≤ k ∧ k + 3 * ((lsum a : Nat) : Int) ≤ 4611686018427387904) (ha : LRows Ha va a) : SpecP Tryz.prog 27 [va, .int .i64 k] [Ha] (.int .i64 (heldLS a k)) := by
 refine spec_of Tryz.func27 rfl rfl rfl (fun B => ?_)
 refine cS (cr (sg rfl (ln (qc (cS (cS (cr (sg rfl (ln (qc (bl (kc_loop0 (A := Nat × Int) (fun zz => (zz.1 ≤ a.length) ∧ (HmI a k zz.1 zz.2)) (fun zz => a.length - zz.1) (fun zz => [(5, .int .i64 (zz.1 : Int)), (1, .int .i64 zz.2)]) (0, k) (pc 0 rfl pn) (pk [5, 1] rfl) ⟨Nat.zero_le _, (hm_0 hk)⟩ ?_))))))))))))
 rintro ⟨i, l⟩ hJ3
 obtain ⟨hk1, hi2⟩ : (i ≤ a.length) ∧ (HmI a k i l) := hJ3
 change KC _ _ (_) _ _ ([(5, .int .i64 (i : Int)), (1, .int .i64 l)] ++ _)
 refine cS (cS (cr (mv rfl (mv rfl (le9 rfl ‹_› (fun l4 => ?_))))))
 refine ls9 rfl rfl ?_
 refine ln (qc (ci9 rfl (fun c5 => ?_) (fun c5 => ?_)))
 ·refine sk (qc (cS (bl (cS (cr (mv rfl (mv rfl (kl_inS rfl rfl ‹_› (by omega) (fun p6 u8 h9 a7 => ?_)))))))))
  refine ld rfl ‹_› (mv rfl (cP rfl rfl (heldLt_ok (a.getD i []) l (hm_b hi2 (by omega)) ‹_›) ?_))
  refine sg rfl (ln (qc (cS (cr (mv rfl (ls9 rfl rfl ?_))))))
  refine ln (qc (ci9 rfl (fun c10 => ?_) (fun c10 => ?_)))
  ·refine cS (cr (sg rfl (ln (qc (rt (kq_retP rfl rfl (congrArg (Value.int .i64) ?_)))))))
   exact hm_no hi2 (by omega) ‹_›
  ·refine sk (qc (cr (mv rfl (ic9 rfl rfl (by omega) ?_))))
   refine sg rfl (ln (kq_round0 ((i + 1), (heldLt (a.getD i []) l)) (by omega) (⟨by omega, (hm_step hi2 (by omega) ‹_›)⟩) (pk [5, 1] rfl) (pc 0 rfl pn) slr9))
 ·refine ex9 (qc (cS (cr (mv rfl (sg rfl (ln (qc (rt (kq_retP rfl rfl (congrArg (Value.int .i64) ?_))))))))))
  exact hm_end hi2 (by omega)
end
section
theorem inRange_ok (n : Int) (lo : Int) (hi : Int) : SpecP Tryz.prog 39 [.int .i64 n, .int .i64 lo, .int .i64 hi] [] (.bool (withinB n lo hi)) := by
 refine spec_of Tryz.func39 rfl rfl rfl (fun B => ?_)
 refine cS (cr (sg rfl (ln (qc (cS (cr (mv rfl (mv rfl (kl_geq rfl rfl ?_)))))))))
 refine mv rfl (jn 4 14 (.bool (decide (lo ≤ n) && decide (n ≤ hi))) (pk [6, 10] rfl) (fun J2 => ?_) ?_)
 ·rcases Bool.eq_false_or_eq_true (decide (lo ≤ n)) with g1 | g1
  ·have g1p := of_decide_eq_true g1
   refine gT rfl rfl g1 (mv rfl (gT rfl rfl g1 (mv rfl (gT rfl rfl g1 (kl_leq rfl rfl ?_)))))
   refine aT rfl rfl g1 ?_
   exact J2 _ (pk [14, 6, 10] rfl)
  ·refine gF rfl rfl g1 (gF rfl rfl g1 (gF rfl rfl g1 (aF (decide (n ≤ hi)) rfl rfl g1 ?_)))
   exact J2 _ (pk [14, 6, 10] rfl)
 refine sg rfl (ln (qc (rt (kq_retP rfl rfl (congrArg Value.bool ?_)))))
 rfl
theorem validDomain_ok (d : Int) : SpecP Tryz.prog 67 [.int .i64 d] [] (.bool (validDomB d)) := by
 refine spec_of Tryz.func67 rfl rfl rfl (fun B => ?_)
 refine cS (cr (sg rfl (ln (qc (cS (cr (mv rfl (cP rfl rfl (inRange_ok d (0 : Int) (63 : Int)) ?_))))))))
 refine sg rfl (ln (qc (rt (kq_retP rfl rfl (congrArg Value.bool ?_)))))
 rfl
theorem allInRange_ok {Hxs : Hp} {vxs : Value} (xs : List Int) (lo : Int) (hi : Int) (hxs : Ints Hxs vxs xs) : SpecP Tryz.prog 69 [vxs, .int .i64 lo, .int .i64 hi] [Hxs] (.bool (allInB xs lo hi)) := by
 refine spec_of Tryz.func69 rfl rfl rfl (fun B => ?_)
 refine cS (cr (sg rfl (ln (qc (cS (cS (cr (sg rfl (ln (qc (bl (kc_loop0 (A := Nat) (fun zz => (zz ≤ xs.length) ∧ ((xs.take zz).all (fun n => withinB n lo hi) = true)) (fun zz => xs.length - zz) (fun zz => [(7, .int .i64 (zz : Int))]) (0) (pk [0, 1, 2] rfl) (pc 7 rfl pn) ⟨Nat.zero_le _, by simp⟩ ?_))))))))))))
 rintro k hJ3
 obtain ⟨hk1, hi2⟩ : (k ≤ xs.length) ∧ ((xs.take k).all (fun n => withinB n lo hi) = true) := hJ3
 change KC _ _ (_) _ _ ([(7, .int .i64 (k : Int))] ++ _)
 refine cS (cS (cr (mv rfl (mv rfl (le9 rfl ‹_› (fun l4 => ?_))))))
 refine ls9 rfl rfl ?_
 refine ln (qc (ci9 rfl (fun c5 => ?_) (fun c5 => ?_)))
 ·refine sk (qc (cS (bl (cS (cr (mv rfl (mv rfl (kl_inI rfl rfl ‹_› (by omega) (fun p6 a7 => ?_)))))))))
  refine ld rfl ‹_› (mv rfl (mv rfl (cP rfl rfl (inRange_ok (xs.getD k 0) lo hi) ?_)))
  refine nt9 rfl (ln (qc (cd9 rfl (fun c8 => ?_) (fun c8 => ?_))))
  ·have c8r := c8
   try simp only [smpE] at c8
   refine cS (cr (sg rfl (ln (qc (rt (kq_retP rfl rfl (congrArg Value.bool ?_)))))))
   exact (all_false (d := 0) (k := k) (by omega) ‹_›).symm
  ·have c8r := c8
   try simp only [smpE] at c8
   refine sk (qc (cr (mv rfl (ic9 rfl rfl (by omega) ?_))))
   refine sg rfl (ln (kq_round0 ((k + 1)) (by omega) (⟨by omega, all_take_step (d := 0) (by omega) hi2 ‹_›⟩) (pc 7 rfl pn) (pk [0, 1, 2] rfl) slr9))
 ·refine ex9 (qc (cS (cr (sg rfl (ln (qc (rt (kq_retP rfl rfl (congrArg Value.bool ?_)))))))))
  rw [List.take_of_length_le (by omega)] at *; exact (by assumption : allInB xs lo hi = true).symm
theorem sdistinct_ok {Hxs : Hp} {vxs : Value} (xs : List Int) (hxs : Ints Hxs vxs xs) : SpecP Tryz.prog 106 [vxs] [Hxs] (.bool (distinctB xs)) := by
 refine spec_of Tryz.func106 rfl rfl rfl (fun B => ?_)
 refine cS (cr (sg rfl (ln (qc (cS (cS (cr (sg rfl (ln (qc (bl (kc_loop0 (A := Nat) (fun zz => (zz ≤ xs.length) ∧ ((xs.take zz).Nodup)) (fun zz => xs.length - zz) (fun zz => [(3, .int .i64 (zz : Int))]) (0) (pc 0 rfl pn) (pc 3 rfl pn) ⟨Nat.zero_le _, by simp⟩ ?_))))))))))))
 rintro k hJ3
 obtain ⟨hk1, hi2⟩ : (k ≤ xs.length) ∧ ((xs.take k).Nodup) := hJ3
 change KC _ _ (_) _ _ ([(3, .int .i64 (k : Int))] ++ _)
 refine cS (cS (cr (mv rfl (mv rfl (le9 rfl ‹_› (fun l4 => ?_))))))
 refine ls9 rfl rfl ?_
 refine ln (qc (ci9 rfl (fun c5 => ?_) (fun c5 => ?_)))
 ·refine sk (qc (cS (bl (cS (cr (sg rfl (ln (qc (bl (kc_loop0 (A := Nat) (fun zz => (zz ≤ k) ∧ ((xs.take zz).all (fun y => decide (xs.getD k 0 ≠ y)) = true)) (fun zz => k - zz) (fun zz => [(4, .int .i64 (zz : Int))]) (0) (pk [0, 3, 5, 6, 7, 8] rfl) (pc 4 rfl pn) ⟨Nat.zero_le _, by simp⟩ ?_))))))))))
  rintro j hJ8
  obtain ⟨hk6, hi7⟩ : (j ≤ k) ∧ ((xs.take j).all (fun y => decide (xs.getD k 0 ≠ y)) = true) := hJ8
  change KC _ _ (_) _ _ ([(4, .int .i64 (j : Int))] ++ _)
  refine cS (cS (cr (mv rfl (mv rfl (ls9 rfl rfl ?_)))))
  refine ln (qc (ci9 rfl (fun c9 => ?_) (fun c9 => ?_)))
  ·refine sk (qc (cS (bl (cS (kc_draw 9 [true, true, true, true, true, true, true, true, true] (by kernel_rfl) (by kernel_rfl) ?_)))))
   refine mv rfl (mv rfl (kl_inI rfl rfl ‹_› (by omega) (fun p10 a11 => ?_)))
   refine ld rfl ‹_› (mv rfl (mv rfl (kl_inI rfl rfl ‹_› (by omega) (fun p12 a13 => ?_))))
   refine ld rfl ‹_› (eq9 rfl rfl ?_)
   refine ln (qc (ci9 rfl (fun c14 => ?_) (fun c14 => ?_)))
   ·refine cS (cr (sg rfl (ln (qc (rt (kq_retP rfl rfl (congrArg Value.bool ?_)))))))
    exact (decide_eq_false (nodup_not (k := k) (by omega) (mem_take_of (k := j) (by omega) (by omega) ‹_›))).symm
   ·refine sk (qc (cr (mv rfl (ic9 rfl rfl (by omega) ?_))))
    refine sg rfl (ln (kq_round0 ((j + 1)) (by omega) (⟨by omega, all_take_step (d := 0) (by omega) hi7 (by simpa using by assumption)⟩) (pc 4 rfl pn) (pk [0, 3, 5, 6, 7, 8] rfl) slr9))
  ·refine ex9 (qc (cr (mv rfl (ic9 rfl rfl (by omega) ?_))))
   refine sg rfl (ln (kq_round0 ((k + 1)) (by omega) (⟨by omega, (nodup_take_succ (by omega)).2 ⟨hi2, not_mem_k2 (j := j) (by omega) ‹_›⟩⟩) (pc 3 rfl pn) (pc 0 rfl pn) slr9))
 ·refine ex9 (qc (cS (cr (sg rfl (ln (qc (rt (kq_retP rfl rfl (congrArg Value.bool ?_)))))))))
  simp only [distinctB]; rw [List.take_of_length_le (by omega)] at *; exact (decide_eq_true ‹_›).symm
theorem validRows_ok {Hrows : Hp} {vrows : Value} (rows : List (List Int)) (n : Int) (lo : Int) (hi : Int) (hrows : Rows Hrows vrows rows) : SpecP Tryz.prog 107 [vrows, .int .i64 n, .int .i64 lo, .int .i64 hi] [Hrows] (.bool (rowsInB rows n lo hi)) := by
 refine spec_of Tryz.func107 rfl rfl rfl (fun B => ?_)
 refine cS (cr (sg rfl (ln (qc (cS (cS (cr (sg rfl (ln (qc (bl (kc_loop0 (A := Nat) (fun zz => (zz ≤ rows.length) ∧ ((rows.take zz).all (fun r => decide ((r.length : Int) = n) && allInB r lo hi) = true)) (fun zz => rows.length - zz) (fun zz => [(9, .int .i64 (zz : Int))]) (0) (pk [0, 1, 2, 3] rfl) (pc 9 rfl pn) ⟨Nat.zero_le _, by simp⟩ ?_))))))))))))
 rintro k hJ3
 obtain ⟨hk1, hi2⟩ : (k ≤ rows.length) ∧ ((rows.take k).all (fun r => decide ((r.length : Int) = n) && allInB r lo hi) = true) := hJ3
 change KC _ _ (_) _ _ ([(9, .int .i64 (k : Int))] ++ _)
 refine cS (cS (cr (mv rfl (mv rfl (le9 rfl ‹_› (fun l4 => ?_))))))
 refine ls9 rfl rfl ?_
 refine ln (qc (ci9 rfl (fun c5 => ?_) (fun c5 => ?_)))
 ·refine sk (qc (cS (bl (cS (cr (mv rfl (mv rfl (kl_inS rfl rfl ‹_› (by omega) (fun p6 u8 h9 a7 => ?_)))))))))
  refine ld rfl ‹_› (le9 rfl ‹_› (fun l10 => ?_))
  refine mv rfl (kl_neq rfl rfl ?_)
  refine mv rfl (jn 9 32 (.bool (decide (((rows.getD k []).length : Int) ≠ n) || !(allInB (rows.getD k []) lo hi))) (pk [0, 1, 2, 3, 9, 10, 11, 12, 13, 16, 17, 18, 19, 20, 21, 22, 23] rfl) (fun J16 => ?_) ?_)
  ·rcases Bool.eq_false_or_eq_true (decide (((rows.getD k []).length : Int) ≠ n)) with g11 | g11
   ·refine gF rfl rfl g11 (gF rfl rfl g11 (gF rfl rfl g11 (gF rfl rfl g11 (gF rfl rfl g11 (gF rfl rfl g11 (gF rfl rfl g11 (gF rfl rfl g11 (oT (!(allInB (rows.getD k []) lo hi)) rfl rfl g11 ?_))))))))
    exact J16 _ (pk [32, 0, 1, 2, 3, 9, 10, 11, 12, 13, 16, 17, 18, 19, 20, 21, 22, 23] rfl)
   ·have g11p := of_decide_eq_false g11
    refine gT rfl rfl g11 (mv rfl (gT rfl rfl g11 (mv rfl (gT rfl rfl g11 (kl_inS rfl rfl ‹_› (by omega) (fun p12 u14 h15 a13 => ?_))))))
    refine gT rfl rfl g11 (ld rfl ‹_› (gT rfl rfl g11 (mv rfl (gT rfl rfl g11 (mv rfl (gT rfl rfl g11 (cP rfl rfl (allInRange_ok (rows.getD k []) lo hi ‹_›) ?_)))))))
    refine gT rfl rfl g11 (nt9 rfl (oF rfl rfl g11 ?_))
    exact J16 _ (pk [32, 0, 1, 2, 3, 9, 10, 11, 12, 13, 16, 17, 18, 19, 20, 21, 22, 23] rfl)
  refine ln (qc (cd9 rfl (fun c17 => ?_) (fun c17 => ?_)))
  ·have c17r := c17
   try simp only [smpE] at c17
   refine cS (cr (sg rfl (ln (qc (rt (kq_retP rfl rfl (congrArg Value.bool ?_)))))))
   exact (by simp only [rowsInB]; rw [all_false (k := k) (d := []) (by omega) (rowBad ‹_›)]; simp)
  ·have c17r := c17
   try simp only [smpE] at c17
   refine sk (qc (cr (mv rfl (ic9 rfl rfl (by omega) ?_))))
   refine sg rfl (ln (kq_round0 ((k + 1)) (by omega) (⟨by omega, all_take_step (d := []) (by omega) hi2 (rowGood ‹_›)⟩) (pc 9 rfl pn) (pk [0, 1, 2, 3] rfl) slr9))
 ·refine ex9 (qc (cS (cr (mv rfl (le9 rfl ‹_› (fun l18 => ?_))))))
  refine cP rfl rfl (inRange_ok (rows.length : Int) (1 : Int) (8 : Int)) ?_
  refine sg rfl (ln (qc (rt (kq_retP rfl rfl (congrArg Value.bool ?_)))))
  rw [List.take_of_length_le (by omega)] at *; simp only [rowsInB]; simp [*]
theorem svalidCon_ok {Hcv : Hp} {vcv : Value} {Hca : Hp} {vca : Value} {Hcr : Hp} {vcr : Value} (c : Con) (n : Int) (hn : -9223372036854775807 ≤ n ∧ n ≤ 9223372036854775807) (hcv : Ints Hcv vcv c.vars) (hca : Ints Hca vca c.args) (hcr : Rows Hcr vcr c.rows) : SpecP Tryz.prog 68 [.agg #[.int .i64 c.kind, vcv, vca, .int .i64 c.bound, vcr], .int .i64 n] [Hcv, Hca, Hcr] (.bool (validConS c n)) := by
 refine spec_of Tryz.func68 rfl rfl rfl (fun B => ?_)
 refine cS (cr (kl_box rfl rfl (fun p1 H2 f3 a4 => ?_)))
 refine sg rfl (ln (qc (cS (cr (fd9 rfl ‹_› (fun p5 a6 => ?_))))))
 refine ld rfl ‹_› (le9 rfl ‹_› (fun l7 => ?_))
 refine sg rfl (ln (qc (cS (cS (cr (mv rfl (mv rfl (cP rfl rfl (inRange_ok (c.vars.length : Int) (1 : Int) n) ?_))))))))
 refine nt9 rfl (mv rfl (jn 7 20 (.bool (!(withinB (c.vars.length : Int) (1 : Int) n) || !(allInB c.vars (0 : Int) (n - (1 : Int))))) (pk [2, 4, 5, 13] rfl) (fun J11 => ?_) ?_))
 ·rcases Bool.eq_false_or_eq_true (!(withinB (c.vars.length : Int) (1 : Int) n)) with g8 | g8
  ·refine gF rfl rfl g8 (gF rfl rfl g8 (gF rfl rfl g8 (gF rfl rfl g8 (gF rfl rfl g8 (gF rfl rfl g8 (oT (!(allInB c.vars (0 : Int) (n - (1 : Int)))) rfl rfl g8 ?_))))))
   exact J11 _ (pk [20, 2, 4, 5, 13] rfl)
  ·have g8p := g8
   try simp only [smpD] at g8p
   refine gT rfl rfl g8 (fd9 rfl ‹_› (fun p9 a10 => ?_))
   refine gT rfl rfl g8 (ld rfl ‹_› (gT rfl rfl g8 (mv rfl (gT rfl rfl g8 (sb9 rfl rfl (by omega) ?_)))))
   refine gT rfl rfl g8 (cP rfl rfl (allInRange_ok c.vars (0 : Int) (n - (1 : Int)) ‹_›) ?_)
   refine gT rfl rfl g8 (nt9 rfl (oF rfl rfl g8 ?_))
   exact J11 _ (pk [20, 2, 4, 5, 13] rfl)
 refine mv rfl (jn 5 26 (.bool ((!(withinB (c.vars.length : Int) (1 : Int) n) || !(allInB c.vars (0 : Int) (n - (1 : Int)))) || !(distinctB c.vars))) (pk [2, 4, 5, 21] rfl) (fun J15 => ?_) ?_)
 ·rcases Bool.eq_false_or_eq_true (!(withinB (c.vars.length : Int) (1 : Int) n) || !(allInB c.vars (0 : Int) (n - (1 : Int)))) with g12 | g12
  ·refine gF rfl rfl g12 (gF rfl rfl g12 (gF rfl rfl g12 (gF rfl rfl g12 (oT (!(distinctB c.vars)) rfl rfl g12 ?_))))
   exact J15 _ (pk [26, 2, 4, 5, 21] rfl)
  ·have g12p := g12
   try simp only [smpD] at g12p
   refine gT rfl rfl g12 (fd9 rfl ‹_› (fun p13 a14 => ?_))
   refine gT rfl rfl g12 (ld rfl ‹_› (gT rfl rfl g12 (cP rfl rfl (sdistinct_ok c.vars ‹_›) ?_)))
   refine gT rfl rfl g12 (nt9 rfl (oF rfl rfl g12 ?_))
   exact J15 _ (pk [26, 2, 4, 5, 21] rfl)
 refine ln (qc (cd9 rfl (fun c16 => ?_) (fun c16 => ?_)))
 ·have c16r := c16
  try simp only [smpE] at c16
  refine cS (cr (sg rfl (ln (qc (rt (kq_retP rfl rfl (congrArg Value.bool ?_)))))))
  exact conS_no ‹_›
 ·have c16r := c16
  try simp only [smpE] at c16
  refine sk (qc (cS (cS (cr (fd9 rfl ‹_› (fun p17 a18 => ?_))))))
  refine ld rfl ‹_› (ln (qc (bl (cS (cr (eq9 rfl rfl ?_))))))
  refine sg rfl (ln (qc (ci9 rfl (fun c19 => ?_) (fun c19 => ?_))))
  ·refine cS (cr (fd9 rfl ‹_› (fun p20 a21 => ?_)))
   refine ld rfl ‹_› (le9 rfl ‹_› (fun l22 => ?_))
   refine mv rfl (eq9 rfl rfl ?_)
   refine mv rfl (jn 4 40 (.bool (decide ((c.args.length : Int) = (c.vars.length : Int)) && (allInB c.args (-9 : Int) (9 : Int)))) (pk [2, 4, 36] rfl) (fun J26 => ?_) ?_)
   ·rcases Bool.eq_false_or_eq_true (decide ((c.args.length : Int) = (c.vars.length : Int))) with g23 | g23
    ·have g23p := of_decide_eq_true g23
     refine gT rfl rfl g23 (fd9 rfl ‹_› (fun p24 a25 => ?_))
     refine gT rfl rfl g23 (ld rfl ‹_› (gT rfl rfl g23 (cP rfl rfl (allInRange_ok c.args (-9 : Int) (9 : Int) ‹_›) ?_)))
     refine aT rfl rfl g23 ?_
     exact J26 _ (pk [40, 2, 4, 36] rfl)
    ·refine gF rfl rfl g23 (gF rfl rfl g23 (gF rfl rfl g23 (aF (allInB c.args (-9 : Int) (9 : Int)) rfl rfl g23 ?_)))
     exact J26 _ (pk [40, 2, 4, 36] rfl)
   refine mv rfl (jn 4 45 (.bool ((decide ((c.args.length : Int) = (c.vars.length : Int)) && (allInB c.args (-9 : Int) (9 : Int))) && (withinB c.bound (-999 : Int) (999 : Int)))) (pk [2, 4, 41] rfl) (fun J30 => ?_) ?_)
   ·rcases Bool.eq_false_or_eq_true (decide ((c.args.length : Int) = (c.vars.length : Int)) && (allInB c.args (-9 : Int) (9 : Int))) with g27 | g27
    ·have g27p := g27
     try simp only [smpD] at g27p
     refine gT rfl rfl g27 (fd9 rfl ‹_› (fun p28 a29 => ?_))
     refine gT rfl rfl g27 (ld rfl ‹_› (gT rfl rfl g27 (cP rfl rfl (inRange_ok c.bound (-999 : Int) (999 : Int)) ?_)))
     refine aT rfl rfl g27 ?_
     exact J30 _ (pk [45, 2, 4, 41] rfl)
    ·refine gF rfl rfl g27 (gF rfl rfl g27 (gF rfl rfl g27 (aF (withinB c.bound (-999 : Int) (999 : Int)) rfl rfl g27 ?_)))
     exact J30 _ (pk [45, 2, 4, 41] rfl)
   refine mv rfl (jn 5 51 (.bool (((decide ((c.args.length : Int) = (c.vars.length : Int)) && (allInB c.args (-9 : Int) (9 : Int))) && (withinB c.bound (-999 : Int) (999 : Int))) && decide ((c.rows.length : Int) = (0 : Int)))) (pk [4, 46] rfl) (fun J35 => ?_) ?_)
   ·rcases Bool.eq_false_or_eq_true ((decide ((c.args.length : Int) = (c.vars.length : Int)) && (allInB c.args (-9 : Int) (9 : Int))) && (withinB c.bound (-999 : Int) (999 : Int))) with g31 | g31
    ·have g31p := g31
     try simp only [smpD] at g31p
     refine gT rfl rfl g31 (fd9 rfl ‹_› (fun p32 a33 => ?_))
     refine gT rfl rfl g31 (ld rfl ‹_› (gT rfl rfl g31 (le9 rfl ‹_› (fun l34 => ?_))))
     refine gT rfl rfl g31 (eq9 rfl rfl ?_)
     refine aT rfl rfl g31 ?_
     exact J35 _ (pk [51, 4, 46] rfl)
    ·refine gF rfl rfl g31 (gF rfl rfl g31 (gF rfl rfl g31 (gF rfl rfl g31 (aF (decide ((c.rows.length : Int) = (0 : Int))) rfl rfl g31 ?_))))
     exact J35 _ (pk [51, 4, 46] rfl)
   refine sg rfl (ln (qc (rt (kq_retP rfl rfl (congrArg Value.bool ?_)))))
   exact conS_yes ‹_› (by first | (exfalso; omega) | (simp only [fitsB, *]; first | rfl | (simp; done) | (simp; ac_rfl)))
  ·refine cS (cr (eq9 rfl rfl ?_))
   refine sg rfl (ln (qc (ci9 rfl (fun c36 => ?_) (fun c36 => ?_))))
   ·refine cS (cr (mv rfl (eq9 rfl rfl ?_)))
    refine mv rfl (jn 5 61 (.bool (decide ((c.vars.length : Int) = (2 : Int)) && decide ((c.args.length : Int) = (1 : Int)))) (pk [2, 4, 56] rfl) (fun J41 => ?_) ?_)
    ·rcases Bool.eq_false_or_eq_true (decide ((c.vars.length : Int) = (2 : Int))) with g37 | g37
     ·have g37p := of_decide_eq_true g37
      refine gT rfl rfl g37 (fd9 rfl ‹_› (fun p38 a39 => ?_))
      refine gT rfl rfl g37 (ld rfl ‹_› (gT rfl rfl g37 (le9 rfl ‹_› (fun l40 => ?_))))
      refine gT rfl rfl g37 (eq9 rfl rfl ?_)
      refine aT rfl rfl g37 ?_
      exact J41 _ (pk [61, 2, 4, 56] rfl)
     ·refine gF rfl rfl g37 (gF rfl rfl g37 (gF rfl rfl g37 (gF rfl rfl g37 (aF (decide ((c.args.length : Int) = (1 : Int))) rfl rfl g37 ?_))))
      exact J41 _ (pk [61, 2, 4, 56] rfl)
    refine mv rfl (jn 4 66 (.bool ((decide ((c.vars.length : Int) = (2 : Int)) && decide ((c.args.length : Int) = (1 : Int))) && (allInB c.args (-9 : Int) (9 : Int)))) (pk [2, 4, 62] rfl) (fun J45 => ?_) ?_)
    ·rcases Bool.eq_false_or_eq_true (decide ((c.vars.length : Int) = (2 : Int)) && decide ((c.args.length : Int) = (1 : Int))) with g42 | g42
     ·have g42p := g42
      try simp only [smpD] at g42p
      refine gT rfl rfl g42 (fd9 rfl ‹_› (fun p43 a44 => ?_))
      refine gT rfl rfl g42 (ld rfl ‹_› (gT rfl rfl g42 (cP rfl rfl (allInRange_ok c.args (-9 : Int) (9 : Int) ‹_›) ?_)))
      refine aT rfl rfl g42 ?_
      exact J45 _ (pk [66, 2, 4, 62] rfl)
     ·refine gF rfl rfl g42 (gF rfl rfl g42 (gF rfl rfl g42 (aF (allInB c.args (-9 : Int) (9 : Int)) rfl rfl g42 ?_)))
      exact J45 _ (pk [66, 2, 4, 62] rfl)
    refine mv rfl (jn 4 71 (.bool (((decide ((c.vars.length : Int) = (2 : Int)) && decide ((c.args.length : Int) = (1 : Int))) && (allInB c.args (-9 : Int) (9 : Int))) && decide (c.bound = (0 : Int)))) (pk [2, 4, 67] rfl) (fun J49 => ?_) ?_)
    ·rcases Bool.eq_false_or_eq_true ((decide ((c.vars.length : Int) = (2 : Int)) && decide ((c.args.length : Int) = (1 : Int))) && (allInB c.args (-9 : Int) (9 : Int))) with g46 | g46
     ·have g46p := g46
      try simp only [smpD] at g46p
      refine gT rfl rfl g46 (fd9 rfl ‹_› (fun p47 a48 => ?_))
      refine gT rfl rfl g46 (ld rfl ‹_› (gT rfl rfl g46 (eq9 rfl rfl ?_)))
      refine aT rfl rfl g46 ?_
      exact J49 _ (pk [71, 2, 4, 67] rfl)
     ·refine gF rfl rfl g46 (gF rfl rfl g46 (gF rfl rfl g46 (aF (decide (c.bound = (0 : Int))) rfl rfl g46 ?_)))
      exact J49 _ (pk [71, 2, 4, 67] rfl)
    refine mv rfl (jn 5 77 (.bool ((((decide ((c.vars.length : Int) = (2 : Int)) && decide ((c.args.length : Int) = (1 : Int))) && (allInB c.args (-9 : Int) (9 : Int))) && decide (c.bound = (0 : Int))) && decide ((c.rows.length : Int) = (0 : Int)))) (pk [4, 72] rfl) (fun J54 => ?_) ?_)
    ·rcases Bool.eq_false_or_eq_true (((decide ((c.vars.length : Int) = (2 : Int)) && decide ((c.args.length : Int) = (1 : Int))) && (allInB c.args (-9 : Int) (9 : Int))) && decide (c.bound = (0 : Int))) with g50 | g50
     ·have g50p := g50
      try simp only [smpD] at g50p
      refine gT rfl rfl g50 (fd9 rfl ‹_› (fun p51 a52 => ?_))
      refine gT rfl rfl g50 (ld rfl ‹_› (gT rfl rfl g50 (le9 rfl ‹_› (fun l53 => ?_))))
      refine gT rfl rfl g50 (eq9 rfl rfl ?_)
      refine aT rfl rfl g50 ?_
      exact J54 _ (pk [77, 4, 72] rfl)
     ·refine gF rfl rfl g50 (gF rfl rfl g50 (gF rfl rfl g50 (gF rfl rfl g50 (aF (decide ((c.rows.length : Int) = (0 : Int))) rfl rfl g50 ?_))))
      exact J54 _ (pk [77, 4, 72] rfl)
    refine sg rfl (ln (qc (rt (kq_retP rfl rfl (congrArg Value.bool ?_)))))
    exact conS_yes ‹_› (by first | (exfalso; omega) | (simp only [fitsB, *]; first | rfl | (simp; done) | (simp; ac_rfl)))
   ·refine cS (cS (cr (eq9 rfl rfl ?_)))
    refine sg rfl (ln (qc (ci9 rfl (fun c55 => ?_) (fun c55 => ?_))))
    ·refine sk (qc (ci9 rfl (fun c56 => ?_) (fun c56 => ?_)))
     ·refine cS (cr (fd9 rfl ‹_› (fun p57 a58 => ?_)))
      refine ld rfl ‹_› (le9 rfl ‹_› (fun l59 => ?_))
      refine eq9 rfl rfl ?_
      refine mv rfl (jn 4 89 (.bool (decide ((c.args.length : Int) = (0 : Int)) && decide (c.bound = (0 : Int)))) (pk [2, 4, 85] rfl) (fun J63 => ?_) ?_)
      ·rcases Bool.eq_false_or_eq_true (decide ((c.args.length : Int) = (0 : Int))) with g60 | g60
       ·have g60p := of_decide_eq_true g60
        refine gT rfl rfl g60 (fd9 rfl ‹_› (fun p61 a62 => ?_))
        refine gT rfl rfl g60 (ld rfl ‹_› (gT rfl rfl g60 (eq9 rfl rfl ?_)))
        refine aT rfl rfl g60 ?_
        exact J63 _ (pk [89, 2, 4, 85] rfl)
       ·refine gF rfl rfl g60 (gF rfl rfl g60 (gF rfl rfl g60 (aF (decide (c.bound = (0 : Int))) rfl rfl g60 ?_)))
        exact J63 _ (pk [89, 2, 4, 85] rfl)
      refine mv rfl (jn 5 95 (.bool ((decide ((c.args.length : Int) = (0 : Int)) && decide (c.bound = (0 : Int))) && decide ((c.rows.length : Int) = (0 : Int)))) (pk [4, 90] rfl) (fun J68 => ?_) ?_)
      ·rcases Bool.eq_false_or_eq_true (decide ((c.args.length : Int) = (0 : Int)) && decide (c.bound = (0 : Int))) with g64 | g64
       ·have g64p := g64
        try simp only [smpD] at g64p
        refine gT rfl rfl g64 (fd9 rfl ‹_› (fun p65 a66 => ?_))
        refine gT rfl rfl g64 (ld rfl ‹_› (gT rfl rfl g64 (le9 rfl ‹_› (fun l67 => ?_))))
        refine gT rfl rfl g64 (eq9 rfl rfl ?_)
        refine aT rfl rfl g64 ?_
        exact J68 _ (pk [95, 4, 90] rfl)
       ·refine gF rfl rfl g64 (gF rfl rfl g64 (gF rfl rfl g64 (gF rfl rfl g64 (aF (decide ((c.rows.length : Int) = (0 : Int))) rfl rfl g64 ?_))))
        exact J68 _ (pk [95, 4, 90] rfl)
      refine sg rfl (ln (qc (rt (kq_retP rfl rfl (congrArg Value.bool ?_)))))
      exact conS_yes ‹_› (by first | (exfalso; omega) | (simp only [fitsB, *]; first | rfl | (simp; done) | (simp; ac_rfl)))
     ·refine cS (cr (eq9 rfl rfl ?_))
      refine sg rfl (ln (qc (ci9 rfl (fun c69 => ?_) (fun c69 => ?_))))
      ·refine cS (cr (mv rfl (eq9 rfl rfl ?_)))
       refine mv rfl (jn 5 105 (.bool (decide ((c.vars.length : Int) = (2 : Int)) && (withinB (c.args.length : Int) (1 : Int) (6 : Int)))) (pk [2, 4, 100] rfl) (fun J74 => ?_) ?_)
       ·rcases Bool.eq_false_or_eq_true (decide ((c.vars.length : Int) = (2 : Int))) with g70 | g70
        ·have g70p := of_decide_eq_true g70
         refine gT rfl rfl g70 (fd9 rfl ‹_› (fun p71 a72 => ?_))
         refine gT rfl rfl g70 (ld rfl ‹_› (gT rfl rfl g70 (le9 rfl ‹_› (fun l73 => ?_))))
         refine gT rfl rfl g70 (cP rfl rfl (inRange_ok (c.args.length : Int) (1 : Int) (6 : Int)) ?_)
         refine aT rfl rfl g70 ?_
         exact J74 _ (pk [105, 2, 4, 100] rfl)
        ·refine gF rfl rfl g70 (gF rfl rfl g70 (gF rfl rfl g70 (gF rfl rfl g70 (aF (withinB (c.args.length : Int) (1 : Int) (6 : Int)) rfl rfl g70 ?_))))
         exact J74 _ (pk [105, 2, 4, 100] rfl)
       refine mv rfl (jn 4 110 (.bool ((decide ((c.vars.length : Int) = (2 : Int)) && (withinB (c.args.length : Int) (1 : Int) (6 : Int))) && (allInB c.args (0 : Int) (5 : Int)))) (pk [2, 4, 106] rfl) (fun J78 => ?_) ?_)
       ·rcases Bool.eq_false_or_eq_true (decide ((c.vars.length : Int) = (2 : Int)) && (withinB (c.args.length : Int) (1 : Int) (6 : Int))) with g75 | g75
        ·have g75p := g75
         try simp only [smpD] at g75p
         refine gT rfl rfl g75 (fd9 rfl ‹_› (fun p76 a77 => ?_))
         refine gT rfl rfl g75 (ld rfl ‹_› (gT rfl rfl g75 (cP rfl rfl (allInRange_ok c.args (0 : Int) (5 : Int) ‹_›) ?_)))
         refine aT rfl rfl g75 ?_
         exact J78 _ (pk [110, 2, 4, 106] rfl)
        ·refine gF rfl rfl g75 (gF rfl rfl g75 (gF rfl rfl g75 (aF (allInB c.args (0 : Int) (5 : Int)) rfl rfl g75 ?_)))
         exact J78 _ (pk [110, 2, 4, 106] rfl)
       refine mv rfl (jn 4 115 (.bool (((decide ((c.vars.length : Int) = (2 : Int)) && (withinB (c.args.length : Int) (1 : Int) (6 : Int))) && (allInB c.args (0 : Int) (5 : Int))) && decide (c.bound = (0 : Int)))) (pk [2, 4, 111] rfl) (fun J82 => ?_) ?_)
       ·rcases Bool.eq_false_or_eq_true ((decide ((c.vars.length : Int) = (2 : Int)) && (withinB (c.args.length : Int) (1 : Int) (6 : Int))) && (allInB c.args (0 : Int) (5 : Int))) with g79 | g79
        ·have g79p := g79
         try simp only [smpD] at g79p
         refine gT rfl rfl g79 (fd9 rfl ‹_› (fun p80 a81 => ?_))
         refine gT rfl rfl g79 (ld rfl ‹_› (gT rfl rfl g79 (eq9 rfl rfl ?_)))
         refine aT rfl rfl g79 ?_
         exact J82 _ (pk [115, 2, 4, 111] rfl)
        ·refine gF rfl rfl g79 (gF rfl rfl g79 (gF rfl rfl g79 (aF (decide (c.bound = (0 : Int))) rfl rfl g79 ?_)))
         exact J82 _ (pk [115, 2, 4, 111] rfl)
       refine mv rfl (jn 5 121 (.bool ((((decide ((c.vars.length : Int) = (2 : Int)) && (withinB (c.args.length : Int) (1 : Int) (6 : Int))) && (allInB c.args (0 : Int) (5 : Int))) && decide (c.bound = (0 : Int))) && decide ((c.rows.length : Int) = (0 : Int)))) (pk [4, 116] rfl) (fun J87 => ?_) ?_)
       ·rcases Bool.eq_false_or_eq_true (((decide ((c.vars.length : Int) = (2 : Int)) && (withinB (c.args.length : Int) (1 : Int) (6 : Int))) && (allInB c.args (0 : Int) (5 : Int))) && decide (c.bound = (0 : Int))) with g83 | g83
        ·have g83p := g83
         try simp only [smpD] at g83p
         refine gT rfl rfl g83 (fd9 rfl ‹_› (fun p84 a85 => ?_))
         refine gT rfl rfl g83 (ld rfl ‹_› (gT rfl rfl g83 (le9 rfl ‹_› (fun l86 => ?_))))
         refine gT rfl rfl g83 (eq9 rfl rfl ?_)
         refine aT rfl rfl g83 ?_
         exact J87 _ (pk [121, 4, 116] rfl)
        ·refine gF rfl rfl g83 (gF rfl rfl g83 (gF rfl rfl g83 (gF rfl rfl g83 (aF (decide ((c.rows.length : Int) = (0 : Int))) rfl rfl g83 ?_))))
         exact J87 _ (pk [121, 4, 116] rfl)
       refine sg rfl (ln (qc (rt (kq_retP rfl rfl (congrArg Value.bool ?_)))))
       exact conS_yes ‹_› (by first | (exfalso; omega) | (simp only [fitsB, *]; first | rfl | (simp; done) | (simp; ac_rfl)))
      ·refine cS (cr (eq9 rfl rfl ?_))
       refine sg rfl (ln (qc (ci9 rfl (fun c88 => ?_) (fun c88 => ?_))))
       ·refine cS (cr (fd9 rfl ‹_› (fun p89 a90 => ?_)))
        refine ld rfl ‹_› (le9 rfl ‹_› (fun l91 => ?_))
        refine eq9 rfl rfl ?_
        refine mv rfl (jn 4 132 (.bool (decide ((c.args.length : Int) = (0 : Int)) && decide (c.bound = (0 : Int)))) (pk [2, 4, 5, 128] rfl) (fun J95 => ?_) ?_)
        ·rcases Bool.eq_false_or_eq_true (decide ((c.args.length : Int) = (0 : Int))) with g92 | g92
         ·have g92p := of_decide_eq_true g92
          refine gT rfl rfl g92 (fd9 rfl ‹_› (fun p93 a94 => ?_))
          refine gT rfl rfl g92 (ld rfl ‹_› (gT rfl rfl g92 (eq9 rfl rfl ?_)))
          refine aT rfl rfl g92 ?_
          exact J95 _ (pk [132, 2, 4, 5, 128] rfl)
         ·refine gF rfl rfl g92 (gF rfl rfl g92 (gF rfl rfl g92 (aF (decide (c.bound = (0 : Int))) rfl rfl g92 ?_)))
          exact J95 _ (pk [132, 2, 4, 5, 128] rfl)
        refine mv rfl (jn 5 138 (.bool ((decide ((c.args.length : Int) = (0 : Int)) && decide (c.bound = (0 : Int))) && (rowsInB c.rows (c.vars.length : Int) (0 : Int) (5 : Int)))) (pk [4, 133] rfl) (fun J99 => ?_) ?_)
        ·rcases Bool.eq_false_or_eq_true (decide ((c.args.length : Int) = (0 : Int)) && decide (c.bound = (0 : Int))) with g96 | g96
         ·have g96p := g96
          try simp only [smpD] at g96p
          refine gT rfl rfl g96 (fd9 rfl ‹_› (fun p97 a98 => ?_))
          refine gT rfl rfl g96 (ld rfl ‹_› (gT rfl rfl g96 (mv rfl (gT rfl rfl g96 (cP rfl rfl (validRows_ok c.rows (c.vars.length : Int) (0 : Int) (5 : Int) ‹_›) ?_)))))
          refine aT rfl rfl g96 ?_
          exact J99 _ (pk [138, 4, 133] rfl)
         ·refine gF rfl rfl g96 (gF rfl rfl g96 (gF rfl rfl g96 (gF rfl rfl g96 (aF (rowsInB c.rows (c.vars.length : Int) (0 : Int) (5 : Int)) rfl rfl g96 ?_))))
          exact J99 _ (pk [138, 4, 133] rfl)
        refine sg rfl (ln (qc (rt (kq_retP rfl rfl (congrArg Value.bool ?_)))))
        exact conS_yes ‹_› (by first | (exfalso; omega) | (simp only [fitsB, *]; first | rfl | (simp; done) | (simp; ac_rfl)))
       ·refine cS (cr (eq9 rfl rfl ?_))
        refine sg rfl (ln (qc (ci9 rfl (fun c100 => ?_) (fun c100 => ?_))))
        ·refine cS (cr (fd9 rfl ‹_› (fun p101 a102 => ?_)))
         refine ld rfl ‹_› (le9 rfl ‹_› (fun l103 => ?_))
         refine eq9 rfl rfl ?_
         refine mv rfl (jn 4 149 (.bool (decide ((c.args.length : Int) = (1 : Int)) && (allInB c.args (0 : Int) (5 : Int)))) (pk [2, 4, 145] rfl) (fun J107 => ?_) ?_)
         ·rcases Bool.eq_false_or_eq_true (decide ((c.args.length : Int) = (1 : Int))) with g104 | g104
          ·have g104p := of_decide_eq_true g104
           refine gT rfl rfl g104 (fd9 rfl ‹_› (fun p105 a106 => ?_))
           refine gT rfl rfl g104 (ld rfl ‹_› (gT rfl rfl g104 (cP rfl rfl (allInRange_ok c.args (0 : Int) (5 : Int) ‹_›) ?_)))
           refine aT rfl rfl g104 ?_
           exact J107 _ (pk [149, 2, 4, 145] rfl)
          ·refine gF rfl rfl g104 (gF rfl rfl g104 (gF rfl rfl g104 (aF (allInB c.args (0 : Int) (5 : Int)) rfl rfl g104 ?_)))
           exact J107 _ (pk [149, 2, 4, 145] rfl)
         refine mv rfl (jn 4 154 (.bool ((decide ((c.args.length : Int) = (1 : Int)) && (allInB c.args (0 : Int) (5 : Int))) && (withinB c.bound (0 : Int) (4 : Int)))) (pk [2, 4, 150] rfl) (fun J111 => ?_) ?_)
         ·rcases Bool.eq_false_or_eq_true (decide ((c.args.length : Int) = (1 : Int)) && (allInB c.args (0 : Int) (5 : Int))) with g108 | g108
          ·have g108p := g108
           try simp only [smpD] at g108p
           refine gT rfl rfl g108 (fd9 rfl ‹_› (fun p109 a110 => ?_))
           refine gT rfl rfl g108 (ld rfl ‹_› (gT rfl rfl g108 (cP rfl rfl (inRange_ok c.bound (0 : Int) (4 : Int)) ?_)))
           refine aT rfl rfl g108 ?_
           exact J111 _ (pk [154, 2, 4, 150] rfl)
          ·refine gF rfl rfl g108 (gF rfl rfl g108 (gF rfl rfl g108 (aF (withinB c.bound (0 : Int) (4 : Int)) rfl rfl g108 ?_)))
           exact J111 _ (pk [154, 2, 4, 150] rfl)
         refine mv rfl (jn 5 160 (.bool (((decide ((c.args.length : Int) = (1 : Int)) && (allInB c.args (0 : Int) (5 : Int))) && (withinB c.bound (0 : Int) (4 : Int))) && decide ((c.rows.length : Int) = (0 : Int)))) (pk [4, 155] rfl) (fun J116 => ?_) ?_)
         ·rcases Bool.eq_false_or_eq_true ((decide ((c.args.length : Int) = (1 : Int)) && (allInB c.args (0 : Int) (5 : Int))) && (withinB c.bound (0 : Int) (4 : Int))) with g112 | g112
          ·have g112p := g112
           try simp only [smpD] at g112p
           refine gT rfl rfl g112 (fd9 rfl ‹_› (fun p113 a114 => ?_))
           refine gT rfl rfl g112 (ld rfl ‹_› (gT rfl rfl g112 (le9 rfl ‹_› (fun l115 => ?_))))
           refine gT rfl rfl g112 (eq9 rfl rfl ?_)
           refine aT rfl rfl g112 ?_
           exact J116 _ (pk [160, 4, 155] rfl)
          ·refine gF rfl rfl g112 (gF rfl rfl g112 (gF rfl rfl g112 (gF rfl rfl g112 (aF (decide ((c.rows.length : Int) = (0 : Int))) rfl rfl g112 ?_))))
           exact J116 _ (pk [160, 4, 155] rfl)
         refine sg rfl (ln (qc (rt (kq_retP rfl rfl (congrArg Value.bool ?_)))))
         exact conS_yes ‹_› (by first | (exfalso; omega) | (simp only [fitsB, *]; first | rfl | (simp; done) | (simp; ac_rfl)))
        ·refine cS (cr (eq9 rfl rfl ?_))
         refine sg rfl (ln (qc (ci9 rfl (fun c117 => ?_) (fun c117 => ?_))))
         ·refine cS (cr (fd9 rfl ‹_› (fun p118 a119 => ?_)))
          refine ld rfl ‹_› (le9 rfl ‹_› (fun l120 => ?_))
          refine mv rfl (kl_mul rfl rfl (by omega) ?_)
          refine eq9 rfl rfl ?_
          refine mv rfl (jn 4 173 (.bool (decide ((c.args.length : Int) = ((2 : Int) * (c.vars.length : Int))) && (allInB c.args (0 : Int) (9 : Int)))) (pk [2, 4, 169] rfl) (fun J124 => ?_) ?_)
          ·rcases Bool.eq_false_or_eq_true (decide ((c.args.length : Int) = ((2 : Int) * (c.vars.length : Int)))) with g121 | g121
           ·have g121p := of_decide_eq_true g121
            refine gT rfl rfl g121 (fd9 rfl ‹_› (fun p122 a123 => ?_))
            refine gT rfl rfl g121 (ld rfl ‹_› (gT rfl rfl g121 (cP rfl rfl (allInRange_ok c.args (0 : Int) (9 : Int) ‹_›) ?_)))
            refine aT rfl rfl g121 ?_
            exact J124 _ (pk [173, 2, 4, 169] rfl)
           ·refine gF rfl rfl g121 (gF rfl rfl g121 (gF rfl rfl g121 (aF (allInB c.args (0 : Int) (9 : Int)) rfl rfl g121 ?_)))
            exact J124 _ (pk [173, 2, 4, 169] rfl)
          refine mv rfl (jn 4 178 (.bool ((decide ((c.args.length : Int) = ((2 : Int) * (c.vars.length : Int))) && (allInB c.args (0 : Int) (9 : Int))) && (withinB c.bound (0 : Int) (9 : Int)))) (pk [2, 4, 174] rfl) (fun J128 => ?_) ?_)
          ·rcases Bool.eq_false_or_eq_true (decide ((c.args.length : Int) = ((2 : Int) * (c.vars.length : Int))) && (allInB c.args (0 : Int) (9 : Int))) with g125 | g125
           ·have g125p := g125
            try simp only [smpD] at g125p
            refine gT rfl rfl g125 (fd9 rfl ‹_› (fun p126 a127 => ?_))
            refine gT rfl rfl g125 (ld rfl ‹_› (gT rfl rfl g125 (cP rfl rfl (inRange_ok c.bound (0 : Int) (9 : Int)) ?_)))
            refine aT rfl rfl g125 ?_
            exact J128 _ (pk [178, 2, 4, 174] rfl)
           ·refine gF rfl rfl g125 (gF rfl rfl g125 (gF rfl rfl g125 (aF (withinB c.bound (0 : Int) (9 : Int)) rfl rfl g125 ?_)))
            exact J128 _ (pk [178, 2, 4, 174] rfl)
          refine mv rfl (jn 5 184 (.bool (((decide ((c.args.length : Int) = ((2 : Int) * (c.vars.length : Int))) && (allInB c.args (0 : Int) (9 : Int))) && (withinB c.bound (0 : Int) (9 : Int))) && decide ((c.rows.length : Int) = (0 : Int)))) (pk [4, 179] rfl) (fun J133 => ?_) ?_)
          ·rcases Bool.eq_false_or_eq_true ((decide ((c.args.length : Int) = ((2 : Int) * (c.vars.length : Int))) && (allInB c.args (0 : Int) (9 : Int))) && (withinB c.bound (0 : Int) (9 : Int))) with g129 | g129
           ·have g129p := g129
            try simp only [smpD] at g129p
            refine gT rfl rfl g129 (fd9 rfl ‹_› (fun p130 a131 => ?_))
            refine gT rfl rfl g129 (ld rfl ‹_› (gT rfl rfl g129 (le9 rfl ‹_› (fun l132 => ?_))))
            refine gT rfl rfl g129 (eq9 rfl rfl ?_)
            refine aT rfl rfl g129 ?_
            exact J133 _ (pk [184, 4, 179] rfl)
           ·refine gF rfl rfl g129 (gF rfl rfl g129 (gF rfl rfl g129 (gF rfl rfl g129 (aF (decide ((c.rows.length : Int) = (0 : Int))) rfl rfl g129 ?_))))
            exact J133 _ (pk [184, 4, 179] rfl)
          refine sg rfl (ln (qc (rt (kq_retP rfl rfl (congrArg Value.bool ?_)))))
          exact conS_yes ‹_› (by first | (exfalso; omega) | (simp only [fitsB, *]; first | rfl | (simp; done) | (simp; ac_rfl)))
         ·refine cS (cr (eq9 rfl rfl ?_))
          refine sg rfl (ln (qc (ci9 rfl (fun c134 => ?_) (fun c134 => ?_))))
          ·refine cS (cr (fd9 rfl ‹_› (fun p135 a136 => ?_)))
           refine ld rfl ‹_› (fd9 rfl ‹_› (fun p137 a138 => ?_))
           refine ld rfl ‹_› (le9 rfl ‹_› (fun l139 => ?_))
           refine sb9 rfl rfl (by omega) ?_
           refine cP rfl rfl (validRows_ok c.rows (6 : Int) (-1 : Int) ((c.rows.length : Int) - (1 : Int)) ‹_›) ?_
           refine mv rfl (jn 8 202 (.bool ((rowsInB c.rows (6 : Int) (-1 : Int) ((c.rows.length : Int) - (1 : Int))) && (allInB c.args (0 : Int) ((c.rows.length : Int) - (1 : Int))))) (pk [2, 4, 194] rfl) (fun J146 => ?_) ?_)
           ·rcases Bool.eq_false_or_eq_true (rowsInB c.rows (6 : Int) (-1 : Int) ((c.rows.length : Int) - (1 : Int))) with g140 | g140
            ·have g140p := g140
             try simp only [smpD] at g140p
             refine gT rfl rfl g140 (fd9 rfl ‹_› (fun p141 a142 => ?_))
             refine gT rfl rfl g140 (ld rfl ‹_› (gT rfl rfl g140 (fd9 rfl ‹_› (fun p143 a144 => ?_))))
             refine gT rfl rfl g140 (ld rfl ‹_› (gT rfl rfl g140 (le9 rfl ‹_› (fun l145 => ?_))))
             refine gT rfl rfl g140 (sb9 rfl rfl (by omega) ?_)
             refine gT rfl rfl g140 (cP rfl rfl (allInRange_ok c.args (0 : Int) ((c.rows.length : Int) - (1 : Int)) ‹_›) ?_)
             refine aT rfl rfl g140 ?_
             exact J146 _ (pk [202, 2, 4, 194] rfl)
            ·refine gF rfl rfl g140 (gF rfl rfl g140 (gF rfl rfl g140 (gF rfl rfl g140 (gF rfl rfl g140 (gF rfl rfl g140 (gF rfl rfl g140 (aF (allInB c.args (0 : Int) ((c.rows.length : Int) - (1 : Int))) rfl rfl g140 ?_)))))))
             exact J146 _ (pk [202, 2, 4, 194] rfl)
           refine mv rfl (jn 4 207 (.bool (((rowsInB c.rows (6 : Int) (-1 : Int) ((c.rows.length : Int) - (1 : Int))) && (allInB c.args (0 : Int) ((c.rows.length : Int) - (1 : Int)))) && (distinctB c.args))) (pk [2, 4, 203] rfl) (fun J150 => ?_) ?_)
           ·rcases Bool.eq_false_or_eq_true ((rowsInB c.rows (6 : Int) (-1 : Int) ((c.rows.length : Int) - (1 : Int))) && (allInB c.args (0 : Int) ((c.rows.length : Int) - (1 : Int)))) with g147 | g147
            ·have g147p := g147
             try simp only [smpD] at g147p
             refine gT rfl rfl g147 (fd9 rfl ‹_› (fun p148 a149 => ?_))
             refine gT rfl rfl g147 (ld rfl ‹_› (gT rfl rfl g147 (cP rfl rfl (sdistinct_ok c.args ‹_›) ?_)))
             refine aT rfl rfl g147 ?_
             exact J150 _ (pk [207, 2, 4, 203] rfl)
            ·refine gF rfl rfl g147 (gF rfl rfl g147 (gF rfl rfl g147 (aF (distinctB c.args) rfl rfl g147 ?_)))
             exact J150 _ (pk [207, 2, 4, 203] rfl)
           refine mv rfl (jn 4 212 (.bool ((((rowsInB c.rows (6 : Int) (-1 : Int) ((c.rows.length : Int) - (1 : Int))) && (allInB c.args (0 : Int) ((c.rows.length : Int) - (1 : Int)))) && (distinctB c.args)) && decide (c.bound = (0 : Int)))) (pk [4, 208] rfl) (fun J154 => ?_) ?_)
           ·rcases Bool.eq_false_or_eq_true (((rowsInB c.rows (6 : Int) (-1 : Int) ((c.rows.length : Int) - (1 : Int))) && (allInB c.args (0 : Int) ((c.rows.length : Int) - (1 : Int)))) && (distinctB c.args)) with g151 | g151
            ·have g151p := g151
             try simp only [smpD] at g151p
             refine gT rfl rfl g151 (fd9 rfl ‹_› (fun p152 a153 => ?_))
             refine gT rfl rfl g151 (ld rfl ‹_› (gT rfl rfl g151 (eq9 rfl rfl ?_)))
             refine aT rfl rfl g151 ?_
             exact J154 _ (pk [212, 4, 208] rfl)
            ·refine gF rfl rfl g151 (gF rfl rfl g151 (gF rfl rfl g151 (aF (decide (c.bound = (0 : Int))) rfl rfl g151 ?_)))
             exact J154 _ (pk [212, 4, 208] rfl)
           refine sg rfl (ln (qc (rt (kq_retP rfl rfl (congrArg Value.bool ?_)))))
           exact conS_yes ‹_› (by first | (exfalso; omega) | (simp only [fitsB, *]; first | rfl | (simp; done) | (simp; ac_rfl)))
          ·refine sk (qc (cS (cr (sg rfl (ln (qc (rt (kq_retP rfl rfl (congrArg Value.bool ?_)))))))))
           exact conS_yes ‹_› (by first | (exfalso; omega) | (simp only [fitsB, *]; first | rfl | (simp; done) | (simp; ac_rfl)))
    ·refine cr (eq9 rfl rfl ?_)
     refine sg rfl (ln (qc (ci9 rfl (fun c155 => ?_) (fun c155 => ?_))))
     ·refine cS (cr (fd9 rfl ‹_› (fun p156 a157 => ?_)))
      refine ld rfl ‹_› (le9 rfl ‹_› (fun l158 => ?_))
      refine eq9 rfl rfl ?_
      refine mv rfl (jn 4 89 (.bool (decide ((c.args.length : Int) = (0 : Int)) && decide (c.bound = (0 : Int)))) (pk [2, 4, 85] rfl) (fun J162 => ?_) ?_)
      ·rcases Bool.eq_false_or_eq_true (decide ((c.args.length : Int) = (0 : Int))) with g159 | g159
       ·have g159p := of_decide_eq_true g159
        refine gT rfl rfl g159 (fd9 rfl ‹_› (fun p160 a161 => ?_))
        refine gT rfl rfl g159 (ld rfl ‹_› (gT rfl rfl g159 (eq9 rfl rfl ?_)))
        refine aT rfl rfl g159 ?_
        exact J162 _ (pk [89, 2, 4, 85] rfl)
       ·refine gF rfl rfl g159 (gF rfl rfl g159 (gF rfl rfl g159 (aF (decide (c.bound = (0 : Int))) rfl rfl g159 ?_)))
        exact J162 _ (pk [89, 2, 4, 85] rfl)
      refine mv rfl (jn 5 95 (.bool ((decide ((c.args.length : Int) = (0 : Int)) && decide (c.bound = (0 : Int))) && decide ((c.rows.length : Int) = (0 : Int)))) (pk [4, 90] rfl) (fun J167 => ?_) ?_)
      ·rcases Bool.eq_false_or_eq_true (decide ((c.args.length : Int) = (0 : Int)) && decide (c.bound = (0 : Int))) with g163 | g163
       ·have g163p := g163
        try simp only [smpD] at g163p
        refine gT rfl rfl g163 (fd9 rfl ‹_› (fun p164 a165 => ?_))
        refine gT rfl rfl g163 (ld rfl ‹_› (gT rfl rfl g163 (le9 rfl ‹_› (fun l166 => ?_))))
        refine gT rfl rfl g163 (eq9 rfl rfl ?_)
        refine aT rfl rfl g163 ?_
        exact J167 _ (pk [95, 4, 90] rfl)
       ·refine gF rfl rfl g163 (gF rfl rfl g163 (gF rfl rfl g163 (gF rfl rfl g163 (aF (decide ((c.rows.length : Int) = (0 : Int))) rfl rfl g163 ?_))))
        exact J167 _ (pk [95, 4, 90] rfl)
      refine sg rfl (ln (qc (rt (kq_retP rfl rfl (congrArg Value.bool ?_)))))
      exact conS_yes ‹_› (by first | (exfalso; omega) | (simp only [fitsB, *]; first | rfl | (simp; done) | (simp; ac_rfl)))
     ·refine cS (cr (eq9 rfl rfl ?_))
      refine sg rfl (ln (qc (ci9 rfl (fun c168 => ?_) (fun c168 => ?_))))
      ·refine cS (cr (mv rfl (eq9 rfl rfl ?_)))
       refine mv rfl (jn 5 105 (.bool (decide ((c.vars.length : Int) = (2 : Int)) && (withinB (c.args.length : Int) (1 : Int) (6 : Int)))) (pk [2, 4, 100] rfl) (fun J173 => ?_) ?_)
       ·rcases Bool.eq_false_or_eq_true (decide ((c.vars.length : Int) = (2 : Int))) with g169 | g169
        ·have g169p := of_decide_eq_true g169
         refine gT rfl rfl g169 (fd9 rfl ‹_› (fun p170 a171 => ?_))
         refine gT rfl rfl g169 (ld rfl ‹_› (gT rfl rfl g169 (le9 rfl ‹_› (fun l172 => ?_))))
         refine gT rfl rfl g169 (cP rfl rfl (inRange_ok (c.args.length : Int) (1 : Int) (6 : Int)) ?_)
         refine aT rfl rfl g169 ?_
         exact J173 _ (pk [105, 2, 4, 100] rfl)
        ·refine gF rfl rfl g169 (gF rfl rfl g169 (gF rfl rfl g169 (gF rfl rfl g169 (aF (withinB (c.args.length : Int) (1 : Int) (6 : Int)) rfl rfl g169 ?_))))
         exact J173 _ (pk [105, 2, 4, 100] rfl)
       refine mv rfl (jn 4 110 (.bool ((decide ((c.vars.length : Int) = (2 : Int)) && (withinB (c.args.length : Int) (1 : Int) (6 : Int))) && (allInB c.args (0 : Int) (5 : Int)))) (pk [2, 4, 106] rfl) (fun J177 => ?_) ?_)
       ·rcases Bool.eq_false_or_eq_true (decide ((c.vars.length : Int) = (2 : Int)) && (withinB (c.args.length : Int) (1 : Int) (6 : Int))) with g174 | g174
        ·have g174p := g174
         try simp only [smpD] at g174p
         refine gT rfl rfl g174 (fd9 rfl ‹_› (fun p175 a176 => ?_))
         refine gT rfl rfl g174 (ld rfl ‹_› (gT rfl rfl g174 (cP rfl rfl (allInRange_ok c.args (0 : Int) (5 : Int) ‹_›) ?_)))
         refine aT rfl rfl g174 ?_
         exact J177 _ (pk [110, 2, 4, 106] rfl)
        ·refine gF rfl rfl g174 (gF rfl rfl g174 (gF rfl rfl g174 (aF (allInB c.args (0 : Int) (5 : Int)) rfl rfl g174 ?_)))
         exact J177 _ (pk [110, 2, 4, 106] rfl)
       refine mv rfl (jn 4 115 (.bool (((decide ((c.vars.length : Int) = (2 : Int)) && (withinB (c.args.length : Int) (1 : Int) (6 : Int))) && (allInB c.args (0 : Int) (5 : Int))) && decide (c.bound = (0 : Int)))) (pk [2, 4, 111] rfl) (fun J181 => ?_) ?_)
       ·rcases Bool.eq_false_or_eq_true ((decide ((c.vars.length : Int) = (2 : Int)) && (withinB (c.args.length : Int) (1 : Int) (6 : Int))) && (allInB c.args (0 : Int) (5 : Int))) with g178 | g178
        ·have g178p := g178
         try simp only [smpD] at g178p
         refine gT rfl rfl g178 (fd9 rfl ‹_› (fun p179 a180 => ?_))
         refine gT rfl rfl g178 (ld rfl ‹_› (gT rfl rfl g178 (eq9 rfl rfl ?_)))
         refine aT rfl rfl g178 ?_
         exact J181 _ (pk [115, 2, 4, 111] rfl)
        ·refine gF rfl rfl g178 (gF rfl rfl g178 (gF rfl rfl g178 (aF (decide (c.bound = (0 : Int))) rfl rfl g178 ?_)))
         exact J181 _ (pk [115, 2, 4, 111] rfl)
       refine mv rfl (jn 5 121 (.bool ((((decide ((c.vars.length : Int) = (2 : Int)) && (withinB (c.args.length : Int) (1 : Int) (6 : Int))) && (allInB c.args (0 : Int) (5 : Int))) && decide (c.bound = (0 : Int))) && decide ((c.rows.length : Int) = (0 : Int)))) (pk [4, 116] rfl) (fun J186 => ?_) ?_)
       ·rcases Bool.eq_false_or_eq_true (((decide ((c.vars.length : Int) = (2 : Int)) && (withinB (c.args.length : Int) (1 : Int) (6 : Int))) && (allInB c.args (0 : Int) (5 : Int))) && decide (c.bound = (0 : Int))) with g182 | g182
        ·have g182p := g182
         try simp only [smpD] at g182p
         refine gT rfl rfl g182 (fd9 rfl ‹_› (fun p183 a184 => ?_))
         refine gT rfl rfl g182 (ld rfl ‹_› (gT rfl rfl g182 (le9 rfl ‹_› (fun l185 => ?_))))
         refine gT rfl rfl g182 (eq9 rfl rfl ?_)
         refine aT rfl rfl g182 ?_
         exact J186 _ (pk [121, 4, 116] rfl)
        ·refine gF rfl rfl g182 (gF rfl rfl g182 (gF rfl rfl g182 (gF rfl rfl g182 (aF (decide ((c.rows.length : Int) = (0 : Int))) rfl rfl g182 ?_))))
         exact J186 _ (pk [121, 4, 116] rfl)
       refine sg rfl (ln (qc (rt (kq_retP rfl rfl (congrArg Value.bool ?_)))))
       exact conS_yes ‹_› (by first | (exfalso; omega) | (simp only [fitsB, *]; first | rfl | (simp; done) | (simp; ac_rfl)))
      ·refine cS (cr (eq9 rfl rfl ?_))
       refine sg rfl (ln (qc (ci9 rfl (fun c187 => ?_) (fun c187 => ?_))))
       ·refine cS (cr (fd9 rfl ‹_› (fun p188 a189 => ?_)))
        refine ld rfl ‹_› (le9 rfl ‹_› (fun l190 => ?_))
        refine eq9 rfl rfl ?_
        refine mv rfl (jn 4 132 (.bool (decide ((c.args.length : Int) = (0 : Int)) && decide (c.bound = (0 : Int)))) (pk [2, 4, 5, 128] rfl) (fun J194 => ?_) ?_)
        ·rcases Bool.eq_false_or_eq_true (decide ((c.args.length : Int) = (0 : Int))) with g191 | g191
         ·have g191p := of_decide_eq_true g191
          refine gT rfl rfl g191 (fd9 rfl ‹_› (fun p192 a193 => ?_))
          refine gT rfl rfl g191 (ld rfl ‹_› (gT rfl rfl g191 (eq9 rfl rfl ?_)))
          refine aT rfl rfl g191 ?_
          exact J194 _ (pk [132, 2, 4, 5, 128] rfl)
         ·refine gF rfl rfl g191 (gF rfl rfl g191 (gF rfl rfl g191 (aF (decide (c.bound = (0 : Int))) rfl rfl g191 ?_)))
          exact J194 _ (pk [132, 2, 4, 5, 128] rfl)
        refine mv rfl (jn 5 138 (.bool ((decide ((c.args.length : Int) = (0 : Int)) && decide (c.bound = (0 : Int))) && (rowsInB c.rows (c.vars.length : Int) (0 : Int) (5 : Int)))) (pk [4, 133] rfl) (fun J198 => ?_) ?_)
        ·rcases Bool.eq_false_or_eq_true (decide ((c.args.length : Int) = (0 : Int)) && decide (c.bound = (0 : Int))) with g195 | g195
         ·have g195p := g195
          try simp only [smpD] at g195p
          refine gT rfl rfl g195 (fd9 rfl ‹_› (fun p196 a197 => ?_))
          refine gT rfl rfl g195 (ld rfl ‹_› (gT rfl rfl g195 (mv rfl (gT rfl rfl g195 (cP rfl rfl (validRows_ok c.rows (c.vars.length : Int) (0 : Int) (5 : Int) ‹_›) ?_)))))
          refine aT rfl rfl g195 ?_
          exact J198 _ (pk [138, 4, 133] rfl)
         ·refine gF rfl rfl g195 (gF rfl rfl g195 (gF rfl rfl g195 (gF rfl rfl g195 (aF (rowsInB c.rows (c.vars.length : Int) (0 : Int) (5 : Int)) rfl rfl g195 ?_))))
          exact J198 _ (pk [138, 4, 133] rfl)
        refine sg rfl (ln (qc (rt (kq_retP rfl rfl (congrArg Value.bool ?_)))))
        exact conS_yes ‹_› (by first | (exfalso; omega) | (simp only [fitsB, *]; first | rfl | (simp; done) | (simp; ac_rfl)))
       ·refine cS (cr (eq9 rfl rfl ?_))
        refine sg rfl (ln (qc (ci9 rfl (fun c199 => ?_) (fun c199 => ?_))))
        ·refine cS (cr (fd9 rfl ‹_› (fun p200 a201 => ?_)))
         refine ld rfl ‹_› (le9 rfl ‹_› (fun l202 => ?_))
         refine eq9 rfl rfl ?_
         refine mv rfl (jn 4 149 (.bool (decide ((c.args.length : Int) = (1 : Int)) && (allInB c.args (0 : Int) (5 : Int)))) (pk [2, 4, 145] rfl) (fun J206 => ?_) ?_)
         ·rcases Bool.eq_false_or_eq_true (decide ((c.args.length : Int) = (1 : Int))) with g203 | g203
          ·have g203p := of_decide_eq_true g203
           refine gT rfl rfl g203 (fd9 rfl ‹_› (fun p204 a205 => ?_))
           refine gT rfl rfl g203 (ld rfl ‹_› (gT rfl rfl g203 (cP rfl rfl (allInRange_ok c.args (0 : Int) (5 : Int) ‹_›) ?_)))
           refine aT rfl rfl g203 ?_
           exact J206 _ (pk [149, 2, 4, 145] rfl)
          ·refine gF rfl rfl g203 (gF rfl rfl g203 (gF rfl rfl g203 (aF (allInB c.args (0 : Int) (5 : Int)) rfl rfl g203 ?_)))
           exact J206 _ (pk [149, 2, 4, 145] rfl)
         refine mv rfl (jn 4 154 (.bool ((decide ((c.args.length : Int) = (1 : Int)) && (allInB c.args (0 : Int) (5 : Int))) && (withinB c.bound (0 : Int) (4 : Int)))) (pk [2, 4, 150] rfl) (fun J210 => ?_) ?_)
         ·rcases Bool.eq_false_or_eq_true (decide ((c.args.length : Int) = (1 : Int)) && (allInB c.args (0 : Int) (5 : Int))) with g207 | g207
          ·have g207p := g207
           try simp only [smpD] at g207p
           refine gT rfl rfl g207 (fd9 rfl ‹_› (fun p208 a209 => ?_))
           refine gT rfl rfl g207 (ld rfl ‹_› (gT rfl rfl g207 (cP rfl rfl (inRange_ok c.bound (0 : Int) (4 : Int)) ?_)))
           refine aT rfl rfl g207 ?_
           exact J210 _ (pk [154, 2, 4, 150] rfl)
          ·refine gF rfl rfl g207 (gF rfl rfl g207 (gF rfl rfl g207 (aF (withinB c.bound (0 : Int) (4 : Int)) rfl rfl g207 ?_)))
           exact J210 _ (pk [154, 2, 4, 150] rfl)
         refine mv rfl (jn 5 160 (.bool (((decide ((c.args.length : Int) = (1 : Int)) && (allInB c.args (0 : Int) (5 : Int))) && (withinB c.bound (0 : Int) (4 : Int))) && decide ((c.rows.length : Int) = (0 : Int)))) (pk [4, 155] rfl) (fun J215 => ?_) ?_)
         ·rcases Bool.eq_false_or_eq_true ((decide ((c.args.length : Int) = (1 : Int)) && (allInB c.args (0 : Int) (5 : Int))) && (withinB c.bound (0 : Int) (4 : Int))) with g211 | g211
          ·have g211p := g211
           try simp only [smpD] at g211p
           refine gT rfl rfl g211 (fd9 rfl ‹_› (fun p212 a213 => ?_))
           refine gT rfl rfl g211 (ld rfl ‹_› (gT rfl rfl g211 (le9 rfl ‹_› (fun l214 => ?_))))
           refine gT rfl rfl g211 (eq9 rfl rfl ?_)
           refine aT rfl rfl g211 ?_
           exact J215 _ (pk [160, 4, 155] rfl)
          ·refine gF rfl rfl g211 (gF rfl rfl g211 (gF rfl rfl g211 (gF rfl rfl g211 (aF (decide ((c.rows.length : Int) = (0 : Int))) rfl rfl g211 ?_))))
           exact J215 _ (pk [160, 4, 155] rfl)
         refine sg rfl (ln (qc (rt (kq_retP rfl rfl (congrArg Value.bool ?_)))))
         exact conS_yes ‹_› (by first | (exfalso; omega) | (simp only [fitsB, *]; first | rfl | (simp; done) | (simp; ac_rfl)))
        ·refine cS (cr (eq9 rfl rfl ?_))
         refine sg rfl (ln (qc (ci9 rfl (fun c216 => ?_) (fun c216 => ?_))))
         ·refine cS (cr (fd9 rfl ‹_› (fun p217 a218 => ?_)))
          refine ld rfl ‹_› (le9 rfl ‹_› (fun l219 => ?_))
          refine mv rfl (kl_mul rfl rfl (by omega) ?_)
          refine eq9 rfl rfl ?_
          refine mv rfl (jn 4 173 (.bool (decide ((c.args.length : Int) = ((2 : Int) * (c.vars.length : Int))) && (allInB c.args (0 : Int) (9 : Int)))) (pk [2, 4, 169] rfl) (fun J223 => ?_) ?_)
          ·rcases Bool.eq_false_or_eq_true (decide ((c.args.length : Int) = ((2 : Int) * (c.vars.length : Int)))) with g220 | g220
           ·have g220p := of_decide_eq_true g220
            refine gT rfl rfl g220 (fd9 rfl ‹_› (fun p221 a222 => ?_))
            refine gT rfl rfl g220 (ld rfl ‹_› (gT rfl rfl g220 (cP rfl rfl (allInRange_ok c.args (0 : Int) (9 : Int) ‹_›) ?_)))
            refine aT rfl rfl g220 ?_
            exact J223 _ (pk [173, 2, 4, 169] rfl)
           ·refine gF rfl rfl g220 (gF rfl rfl g220 (gF rfl rfl g220 (aF (allInB c.args (0 : Int) (9 : Int)) rfl rfl g220 ?_)))
            exact J223 _ (pk [173, 2, 4, 169] rfl)
          refine mv rfl (jn 4 178 (.bool ((decide ((c.args.length : Int) = ((2 : Int) * (c.vars.length : Int))) && (allInB c.args (0 : Int) (9 : Int))) && (withinB c.bound (0 : Int) (9 : Int)))) (pk [2, 4, 174] rfl) (fun J227 => ?_) ?_)
          ·rcases Bool.eq_false_or_eq_true (decide ((c.args.length : Int) = ((2 : Int) * (c.vars.length : Int))) && (allInB c.args (0 : Int) (9 : Int))) with g224 | g224
           ·have g224p := g224
            try simp only [smpD] at g224p
            refine gT rfl rfl g224 (fd9 rfl ‹_› (fun p225 a226 => ?_))
            refine gT rfl rfl g224 (ld rfl ‹_› (gT rfl rfl g224 (cP rfl rfl (inRange_ok c.bound (0 : Int) (9 : Int)) ?_)))
            refine aT rfl rfl g224 ?_
            exact J227 _ (pk [178, 2, 4, 174] rfl)
           ·refine gF rfl rfl g224 (gF rfl rfl g224 (gF rfl rfl g224 (aF (withinB c.bound (0 : Int) (9 : Int)) rfl rfl g224 ?_)))
            exact J227 _ (pk [178, 2, 4, 174] rfl)
          refine mv rfl (jn 5 184 (.bool (((decide ((c.args.length : Int) = ((2 : Int) * (c.vars.length : Int))) && (allInB c.args (0 : Int) (9 : Int))) && (withinB c.bound (0 : Int) (9 : Int))) && decide ((c.rows.length : Int) = (0 : Int)))) (pk [4, 179] rfl) (fun J232 => ?_) ?_)
          ·rcases Bool.eq_false_or_eq_true ((decide ((c.args.length : Int) = ((2 : Int) * (c.vars.length : Int))) && (allInB c.args (0 : Int) (9 : Int))) && (withinB c.bound (0 : Int) (9 : Int))) with g228 | g228
           ·have g228p := g228
            try simp only [smpD] at g228p
            refine gT rfl rfl g228 (fd9 rfl ‹_› (fun p229 a230 => ?_))
            refine gT rfl rfl g228 (ld rfl ‹_› (gT rfl rfl g228 (le9 rfl ‹_› (fun l231 => ?_))))
            refine gT rfl rfl g228 (eq9 rfl rfl ?_)
            refine aT rfl rfl g228 ?_
            exact J232 _ (pk [184, 4, 179] rfl)
           ·refine gF rfl rfl g228 (gF rfl rfl g228 (gF rfl rfl g228 (gF rfl rfl g228 (aF (decide ((c.rows.length : Int) = (0 : Int))) rfl rfl g228 ?_))))
            exact J232 _ (pk [184, 4, 179] rfl)
          refine sg rfl (ln (qc (rt (kq_retP rfl rfl (congrArg Value.bool ?_)))))
          exact conS_yes ‹_› (by first | (exfalso; omega) | (simp only [fitsB, *]; first | rfl | (simp; done) | (simp; ac_rfl)))
         ·refine cS (cr (eq9 rfl rfl ?_))
          refine sg rfl (ln (qc (ci9 rfl (fun c233 => ?_) (fun c233 => ?_))))
          ·refine cS (cr (fd9 rfl ‹_› (fun p234 a235 => ?_)))
           refine ld rfl ‹_› (fd9 rfl ‹_› (fun p236 a237 => ?_))
           refine ld rfl ‹_› (le9 rfl ‹_› (fun l238 => ?_))
           refine sb9 rfl rfl (by omega) ?_
           refine cP rfl rfl (validRows_ok c.rows (6 : Int) (-1 : Int) ((c.rows.length : Int) - (1 : Int)) ‹_›) ?_
           refine mv rfl (jn 8 202 (.bool ((rowsInB c.rows (6 : Int) (-1 : Int) ((c.rows.length : Int) - (1 : Int))) && (allInB c.args (0 : Int) ((c.rows.length : Int) - (1 : Int))))) (pk [2, 4, 194] rfl) (fun J245 => ?_) ?_)
           ·rcases Bool.eq_false_or_eq_true (rowsInB c.rows (6 : Int) (-1 : Int) ((c.rows.length : Int) - (1 : Int))) with g239 | g239
            ·have g239p := g239
             try simp only [smpD] at g239p
             refine gT rfl rfl g239 (fd9 rfl ‹_› (fun p240 a241 => ?_))
             refine gT rfl rfl g239 (ld rfl ‹_› (gT rfl rfl g239 (fd9 rfl ‹_› (fun p242 a243 => ?_))))
             refine gT rfl rfl g239 (ld rfl ‹_› (gT rfl rfl g239 (le9 rfl ‹_› (fun l244 => ?_))))
             refine gT rfl rfl g239 (sb9 rfl rfl (by omega) ?_)
             refine gT rfl rfl g239 (cP rfl rfl (allInRange_ok c.args (0 : Int) ((c.rows.length : Int) - (1 : Int)) ‹_›) ?_)
             refine aT rfl rfl g239 ?_
             exact J245 _ (pk [202, 2, 4, 194] rfl)
            ·refine gF rfl rfl g239 (gF rfl rfl g239 (gF rfl rfl g239 (gF rfl rfl g239 (gF rfl rfl g239 (gF rfl rfl g239 (gF rfl rfl g239 (aF (allInB c.args (0 : Int) ((c.rows.length : Int) - (1 : Int))) rfl rfl g239 ?_)))))))
             exact J245 _ (pk [202, 2, 4, 194] rfl)
           refine mv rfl (jn 4 207 (.bool (((rowsInB c.rows (6 : Int) (-1 : Int) ((c.rows.length : Int) - (1 : Int))) && (allInB c.args (0 : Int) ((c.rows.length : Int) - (1 : Int)))) && (distinctB c.args))) (pk [2, 4, 203] rfl) (fun J249 => ?_) ?_)
           ·rcases Bool.eq_false_or_eq_true ((rowsInB c.rows (6 : Int) (-1 : Int) ((c.rows.length : Int) - (1 : Int))) && (allInB c.args (0 : Int) ((c.rows.length : Int) - (1 : Int)))) with g246 | g246
            ·have g246p := g246
             try simp only [smpD] at g246p
             refine gT rfl rfl g246 (fd9 rfl ‹_› (fun p247 a248 => ?_))
             refine gT rfl rfl g246 (ld rfl ‹_› (gT rfl rfl g246 (cP rfl rfl (sdistinct_ok c.args ‹_›) ?_)))
             refine aT rfl rfl g246 ?_
             exact J249 _ (pk [207, 2, 4, 203] rfl)
            ·refine gF rfl rfl g246 (gF rfl rfl g246 (gF rfl rfl g246 (aF (distinctB c.args) rfl rfl g246 ?_)))
             exact J249 _ (pk [207, 2, 4, 203] rfl)
           refine mv rfl (jn 4 212 (.bool ((((rowsInB c.rows (6 : Int) (-1 : Int) ((c.rows.length : Int) - (1 : Int))) && (allInB c.args (0 : Int) ((c.rows.length : Int) - (1 : Int)))) && (distinctB c.args)) && decide (c.bound = (0 : Int)))) (pk [4, 208] rfl) (fun J253 => ?_) ?_)
           ·rcases Bool.eq_false_or_eq_true (((rowsInB c.rows (6 : Int) (-1 : Int) ((c.rows.length : Int) - (1 : Int))) && (allInB c.args (0 : Int) ((c.rows.length : Int) - (1 : Int)))) && (distinctB c.args)) with g250 | g250
            ·have g250p := g250
             try simp only [smpD] at g250p
             refine gT rfl rfl g250 (fd9 rfl ‹_› (fun p251 a252 => ?_))
             refine gT rfl rfl g250 (ld rfl ‹_› (gT rfl rfl g250 (eq9 rfl rfl ?_)))
             refine aT rfl rfl g250 ?_
             exact J253 _ (pk [212, 4, 208] rfl)
            ·refine gF rfl rfl g250 (gF rfl rfl g250 (gF rfl rfl g250 (aF (decide (c.bound = (0 : Int))) rfl rfl g250 ?_)))
             exact J253 _ (pk [212, 4, 208] rfl)
           refine sg rfl (ln (qc (rt (kq_retP rfl rfl (congrArg Value.bool ?_)))))
           exact conS_yes ‹_› (by first | (exfalso; omega) | (simp only [fitsB, *]; first | rfl | (simp; done) | (simp; ac_rfl)))
          ·refine sk (qc (cS (cr (sg rfl (ln (qc (rt (kq_retP rfl rfl (congrArg Value.bool ?_)))))))))
           exact conS_yes ‹_› (by first | (exfalso; omega) | (simp only [fitsB, *]; first | rfl | (simp; done) | (simp; ac_rfl)))
theorem svalidMod_ok {Hmd : Hp} {vmd : Value} {Hmc : Hp} {vmc : Value} (m : Mod) (hmd : Ints Hmd vmd m.doms) (hmc : Cons Hmc vmc m.cons) : SpecP Tryz.prog 32 [.agg #[vmd, vmc]] [Hmd, Hmc] (.bool (validModB m)) := by
 refine spec_of Tryz.func32 rfl rfl rfl (fun B => ?_)
 refine cS (cr (kl_box rfl rfl (fun p1 H2 f3 a4 => ?_)))
 refine sg rfl (ln (qc (cS (cS (cr (sg rfl (ln (qc (bl (kc_loop0 (A := Nat) (fun zz => (zz ≤ m.doms.length) ∧ ((m.doms.take zz).all validDomB = true)) (fun zz => m.doms.length - zz) (fun zz => [(3, .int .i64 (zz : Int))]) (0) (pc 1 rfl pn) (pc 3 rfl pn) ⟨Nat.zero_le _, by simp⟩ ?_))))))))))
 rintro k hJ7
 obtain ⟨hk5, hi6⟩ : (k ≤ m.doms.length) ∧ ((m.doms.take k).all validDomB = true) := hJ7
 change KC _ _ (_) _ _ ([(3, .int .i64 (k : Int))] ++ _)
 refine cS (cS (cr (mv rfl (fd9 rfl ‹_› (fun p8 a9 => ?_)))))
 refine ld rfl ‹_› (le9 rfl ‹_› (fun l10 => ?_))
 refine ls9 rfl rfl ?_
 refine ln (qc (ci9 rfl (fun c11 => ?_) (fun c11 => ?_)))
 ·refine sk (qc (cS (bl (cS (cr (fd9 rfl ‹_› (fun p12 a13 => ?_)))))))
  refine ld rfl ‹_› (mv rfl (kl_inI rfl rfl ‹_› (by omega) (fun p14 a15 => ?_)))
  refine ld rfl ‹_› (cP rfl rfl (validDomain_ok (m.doms.getD k 0)) ?_)
  refine nt9 rfl (ln (qc (cd9 rfl (fun c16 => ?_) (fun c16 => ?_))))
  ·have c16r := c16
   try simp only [smpE] at c16
   refine cS (cr (sg rfl (ln (qc (rt (kq_retP rfl rfl (congrArg Value.bool ?_)))))))
   exact validModB_d (k := k) (by omega) ‹_›
  ·have c16r := c16
   try simp only [smpE] at c16
   refine sk (qc (cr (mv rfl (ic9 rfl rfl (by omega) ?_))))
   refine sg rfl (ln (kq_round0 ((k + 1)) (by omega) (⟨by omega, all_take_step (d := 0) (by omega) hi6 ‹_›⟩) (pc 3 rfl pn) (pc 1 rfl pn) slr9))
 ·refine ex9 (qc (cS (cS (cr (sg rfl (ln (qc (bl (kc_loop0 (A := Nat) (fun zz => (zz ≤ m.cons.length) ∧ ((m.cons.take zz).all (fun c => validConS c m.doms.length) = true)) (fun zz => m.cons.length - zz) (fun zz => [(4, .int .i64 (zz : Int))]) (0) (pc 1 rfl pn) (pc 4 rfl pn) ⟨Nat.zero_le _, by simp⟩ ?_)))))))))
  rintro j hJ19
  obtain ⟨hk17, hi18⟩ : (j ≤ m.cons.length) ∧ ((m.cons.take j).all (fun c => validConS c m.doms.length) = true) := hJ19
  change KC _ _ (_) _ _ ([(4, .int .i64 (j : Int))] ++ _)
  refine cS (cS (cr (mv rfl (fd9 rfl ‹_› (fun p20 a21 => ?_)))))
  refine ld rfl ‹_› (le9 rfl ‹_› (fun l22 => ?_))
  refine ls9 rfl rfl ?_
  refine ln (qc (ci9 rfl (fun c23 => ?_) (fun c23 => ?_)))
  ·refine sk (qc (cS (bl (cS (kc_draw 10 [true, true, true, true, true, true, true, true, false, true] (by kernel_rfl) (by kernel_rfl) ?_)))))
   refine fd9 rfl ‹_› (fun p24 a25 => ?_)
   refine ld rfl ‹_› (mv rfl (kl_inC rfl rfl ‹_› (by omega) (fun p26 u28 u29 u30 h31 h32 h33 a27 => ?_)))
   refine kl_ldS rfl ‹_› rfl ?_
   refine fd9 rfl ‹_› (fun p34 a35 => ?_)
   refine ld rfl ‹_› (le9 rfl ‹_› (fun l36 => ?_))
   refine cP rfl rfl (svalidCon_ok (m.cons.getD j nilCon) (m.doms.length : Int) (by first | assumption | omega) ‹_› ‹_› ‹_›) ?_
   refine nt9 rfl (ln (qc (cd9 rfl (fun c37 => ?_) (fun c37 => ?_))))
   ·have c37r := c37
    try simp only [smpE] at c37
    refine cS (cr (sg rfl (ln (qc (rt (kq_retP rfl rfl (congrArg Value.bool ?_)))))))
    exact validModB_c (k := j) (by omega) ‹_›
   ·have c37r := c37
    try simp only [smpE] at c37
    refine sk (qc (cr (mv rfl (ic9 rfl rfl (by omega) ?_))))
    refine sg rfl (ln (kq_round0 ((j + 1)) (by omega) (⟨by omega, all_take_step (d := nilCon) (by omega) hi18 ‹_›⟩) (pc 4 rfl pn) (pc 1 rfl pn) slr9))
  ·refine ex9 (qc (cS (cr (fd9 rfl ‹_› (fun p38 a39 => ?_)))))
   refine ld rfl ‹_› (le9 rfl ‹_› (fun l40 => ?_))
   refine cP rfl rfl (inRange_ok (m.doms.length : Int) (1 : Int) (4 : Int)) ?_
   refine mv rfl (jn 5 45 (.bool ((withinB (m.doms.length : Int) (1 : Int) (4 : Int)) && decide ((m.cons.length : Int) ≤ (6 : Int)))) (pc 40 rfl pn) (fun J45 => ?_) ?_)
   ·rcases Bool.eq_false_or_eq_true (withinB (m.doms.length : Int) (1 : Int) (4 : Int)) with g41 | g41
    ·have g41p := g41
     try simp only [smpD] at g41p
     refine gT rfl rfl g41 (fd9 rfl ‹_› (fun p42 a43 => ?_))
     refine gT rfl rfl g41 (ld rfl ‹_› (gT rfl rfl g41 (le9 rfl ‹_› (fun l44 => ?_))))
     refine gT rfl rfl g41 (kl_leq rfl rfl ?_)
     refine aT rfl rfl g41 ?_
     exact J45 _ (pk [45, 40] rfl)
    ·refine gF rfl rfl g41 (gF rfl rfl g41 (gF rfl rfl g41 (gF rfl rfl g41 (aF (decide ((m.cons.length : Int) ≤ (6 : Int))) rfl rfl g41 ?_))))
     exact J45 _ (pk [45, 40] rfl)
   refine sg rfl (ln (qc (rt (kq_retP rfl rfl (congrArg Value.bool ?_)))))
   rw [List.take_of_length_le (by omega)] at *; exact validModB_all ‹_› ‹_›
end
section
theorem domainHas_ok (d : Int) (v : Int) : SpecP Tryz.prog 159 [.int .i64 d, .int .i64 v] [] (.bool (withinB v 0 5 && hasB d v)) := by
 refine spec_of Tryz.func159 rfl rfl rfl (fun B => ?_)
 refine cS (cr (sg rfl (ln (qc (cS (cr (mv rfl (cP rfl rfl (inRange_ok v (0 : Int) (5 : Int)) ?_))))))))
 refine mv rfl (jn 6 13 (.bool ((withinB v (0 : Int) (5 : Int)) && decide ((iand (ishr d v) (1 : Int)) = (1 : Int)))) (pk [4, 7] rfl) (fun J2 => ?_) ?_)
 ·rcases Bool.eq_false_or_eq_true (withinB v (0 : Int) (5 : Int)) with g1 | g1
  ·have g1p := g1
   try simp only [smpD] at g1p
   refine gT rfl rfl g1 (mv rfl (gT rfl rfl g1 (mv rfl (gT rfl rfl g1 (kl_shr rfl rfl (by omega) ?_)))))
   refine gT rfl rfl g1 (kl_and rfl rfl ?_)
   refine gT rfl rfl g1 (eq9 rfl rfl ?_)
   refine aT rfl rfl g1 ?_
   exact J2 _ (pk [13, 4, 7] rfl)
  ·refine gF rfl rfl g1 (gF rfl rfl g1 (gF rfl rfl g1 (gF rfl rfl g1 (gF rfl rfl g1 (aF (decide ((iand (ishr d v) (1 : Int)) = (1 : Int))) rfl rfl g1 ?_)))))
   exact J2 _ (pk [13, 4, 7] rfl)
 refine sg rfl (ln (qc (rt (kq_retP rfl rfl (congrArg Value.bool ?_)))))
 rfl
theorem domainValues_ok (d : Int) : Spec Tryz.prog 119 [.int .i64 d] [] (fun Hq vq => Ints Hq vq (valsI d)) := by
 refine spec_of Tryz.func119 rfl rfl rfl (fun B => ?_)
 refine cS (cr (sg rfl (ln (qc (cS (cr (kl_bsI [] rfl rfl rfl (by decide) (fun v1 H2 f3 o4 => ?_))))))))
 refine sg rfl (ln (qc (cS (cS (cr (sg rfl (ln (qc (bl (kc_loopL (A := Nat × List Int × Value × Hp) (fun zz => (zz.1 ≤ 6) ∧ (zz.2.1 = membersTo d zz.1) ∧ OwnL 3 1 zz.2.2.2 noHp IntV zz.2.2.1 zz.2.1 ∧ Fr B zz.2.2.2) (fun zz => 6 - zz.1) (fun zz => [zz.2.2.2]) (fun zz => [(4, .int .i64 (zz.1 : Int)), (3, zz.2.2.1)]) (0, ([]), v1, H2) (pk [0, 2] rfl) (pk [4, 3] rfl) rfl ⟨Nat.zero_le _, rfl, o4, f3⟩ ?_))))))))))
 rintro ⟨k, out, v10, H7⟩ hJ11
 obtain ⟨hk5, hi6, o8, f9⟩ : (k ≤ 6) ∧ (out = membersTo d k) ∧ OwnL 3 1 H7 noHp IntV v10 out ∧ Fr B H7 := hJ11
 change KC _ _ (_) [H7] _ ([(4, .int .i64 (k : Int)), (3, v10)] ++ _)
 refine cS (cS (cr (mv rfl (kl_leq rfl rfl ?_))))
 refine ln (qc (ci9 rfl (fun c12 => ?_) (fun c12 => ?_)))
 ·refine sk (qc (cS (bl (cS (cr (mv rfl (mv rfl (cP rfl rfl (domainHas_ok d (k : Int)) ?_))))))))
  refine ln (qc (cd9 rfl (fun c13 => ?_) (fun c13 => ?_)))
  ·have c13r := c13
   try simp only [smpE] at c13
   refine cr (mv rfl (mv rfl (bs9 rfl rfl rfl (by decide) (ca rfl ca_nil) (fun v14 H15 f16 r17 s18 => ?_))))
   have h19 : Ints H15 v14 [(k : Int)] := litInts (xs := [(k : Int)]) (by simpa using s18)
   refine aL9 (k : Int) rfl rfl o8 ‹_› rfl (oc rfl oc_nil) (by have := members_len hi6; omega) (by decide) (fun v20 H21 o22 f23 => ?_)
   have f24 := f23 B f9 (Nat.le_refl _)
   refine sg rfl (ln (qc (cr (mv rfl (ic9 rfl rfl (by omega) ?_)))))
   refine sg rfl (ln (rL ((k + 1), (out ++ [(k : Int)]), v20, H21) (by omega) (⟨by omega, (by first | exact members_stepT hi6 (dh_T ‹_›) | exact members_stepF hi6 (dh_F (by omega) ‹_›)), o22, f24⟩) (pk [4, 3] rfl) (pk [0, 2] rfl) rfl slr9))
  ·have c13r := c13
   try simp only [smpE] at c13
   refine sk (qc (cr (mv rfl (ic9 rfl rfl (by omega) ?_))))
   refine sg rfl (ln (rL ((k + 1), out, v10, H7) (by omega) (⟨by omega, (by first | exact members_stepT hi6 (dh_T ‹_›) | exact members_stepF hi6 (dh_F (by omega) ‹_›)), o8, f9⟩) (pk [4, 3] rfl) (pk [0, 2] rfl) rfl slr9))
 ·refine ex9 (qc (cS (cr (mv rfl (sg rfl (ln (qc (rt ?_))))))))
  have e9 : out = valsI d := by (have e : k = 6 := by omega); rw [hi6, e]; rfl
  exact kq_ret rfl rfl H7 f9 (e9 ▸ OwnL.ints o8)
theorem copyInts_ok {Hxs : Hp} {vxs : Value} (xs : List Int) (hb : xs.length ≤ 1048576) (hxs : Ints Hxs vxs xs) : Spec Tryz.prog 75 [vxs] [Hxs] (fun Hq vq => OwnL 3 1 Hq noHp IntV vq xs) := by
 refine spec_of Tryz.func75 rfl rfl rfl (fun B => ?_)
 refine cS (cr (sg rfl (ln (qc (cS (cr (kl_bsI [] rfl rfl rfl (by decide) (fun v1 H2 f3 o4 => ?_))))))))
 refine mv rfl (kl_apS rfl rfl o4 ‹_› (fun _ _ h => h) (by first | omega | (simp; omega)) (by decide) (fun v5 H6 o7 f8 => ?_))
 have f9 := f8 B f3 (Nat.le_refl _)
 refine sg rfl (ln (qc (rt ?_)))
 have e9 : ([] ++ xs) = xs := by simp
 exact kq_ret rfl rfl H6 f9 (e9 ▸ o7)
theorem hasEmpty_ok {Hxs : Hp} {vxs : Value} (xs : List Int) (hxs : Ints Hxs vxs xs) : SpecP Tryz.prog 118 [vxs] [Hxs] (.bool (xs.contains 0)) := by
 refine spec_of Tryz.func118 rfl rfl rfl (fun B => ?_)
 refine cS (cr (sg rfl (ln (qc (cS (cS (cr (sg rfl (ln (qc (bl (kc_loop0 (A := Nat) (fun zz => (zz ≤ xs.length) ∧ ((xs.take zz).any (fun y => decide (y = 0)) = false)) (fun zz => xs.length - zz) (fun zz => [(3, .int .i64 (zz : Int))]) (0) (pc 0 rfl pn) (pc 3 rfl pn) ⟨Nat.zero_le _, by simp⟩ ?_))))))))))))
 rintro k hJ3
 obtain ⟨hk1, hi2⟩ : (k ≤ xs.length) ∧ ((xs.take k).any (fun y => decide (y = 0)) = false) := hJ3
 change KC _ _ (_) _ _ ([(3, .int .i64 (k : Int))] ++ _)
 refine cS (cS (cr (mv rfl (mv rfl (le9 rfl ‹_› (fun l4 => ?_))))))
 refine ls9 rfl rfl ?_
 refine ln (qc (ci9 rfl (fun c5 => ?_) (fun c5 => ?_)))
 ·refine sk (qc (cS (bl (cS (cr (mv rfl (mv rfl (kl_inI rfl rfl ‹_› (by omega) (fun p6 a7 => ?_)))))))))
  refine ld rfl ‹_› (eq9 rfl rfl ?_)
  refine ln (qc (ci9 rfl (fun c8 => ?_) (fun c8 => ?_)))
  ·refine cS (cr (sg rfl (ln (qc (rt (kq_retP rfl rfl (congrArg Value.bool ?_)))))))
   exact contains_hit (k := k) (by omega) ‹_›
  ·refine sk (qc (cr (mv rfl (ic9 rfl rfl (by omega) ?_))))
   refine sg rfl (ln (kq_round0 ((k + 1)) (by omega) (⟨by omega, any_take_step (d := 0) (by omega) hi2 (by simpa using by assumption)⟩) (pc 3 rfl pn) (pc 0 rfl pn) slr9))
 ·refine ex9 (qc (cS (cr (sg rfl (ln (qc (rt (kq_retP rfl rfl (congrArg Value.bool ?_)))))))))
  exact contains_none (by omega) ‹_›
theorem capacity_ok {Hcv : Hp} {vcv : Value} {Hca : Hp} {vca : Value} {Hcr : Hp} {vcr : Value} {Hx : Hp} {vx : Value} (c : Con) (x : List Int) (hs : SatOk c x) (hk : c.kind = 7) (hcv : Ints Hcv vcv c.vars) (hca : Ints Hca vca c.args) (hcr : Rows Hcr vcr c.rows) (hx : Ints Hx vx x) : SpecP Tryz.prog 210 [.agg #[.int .i64 c.kind, vcv, vca, .int .i64 c.bound, vcr], vx] [Hcv, Hca, Hcr, Hx] (.bool (roomB c x)) := by
 have h7 := hs.k7 hk
 have h4 := hs.four
 refine spec_of Tryz.func210 rfl rfl rfl (fun B => ?_)
 refine cS (cr (kl_box rfl rfl (fun p1 H2 f3 a4 => ?_)))
 refine sg rfl (ln (qc (cS (cr (mv rfl (le9 rfl ‹_› (fun l5 => ?_)))))))
 refine sg rfl (ln (qc (cS (cS (cr (sg rfl (ln (qc (bl (kc_loop0 (A := Nat) (fun zz => (zz ≤ 15) ∧ (roomTo c x zz = true)) (fun zz => 15 - zz) (fun zz => [(6, .int .i64 (zz : Int))]) (0) (pk [1, 2, 5] rfl) (pc 6 rfl pn) ⟨Nat.zero_le _, rfl⟩ ?_))))))))))
 rintro k hJ8
 obtain ⟨hk6, hi7⟩ : (k ≤ 15) ∧ (roomTo c x k = true) := hJ8
 change KC _ _ (_) _ _ ([(6, .int .i64 (k : Int))] ++ _)
 refine cS (cS (cr (mv rfl (kl_leq rfl rfl ?_))))
 refine ln (qc (ci9 rfl (fun c9 => ?_) (fun c9 => ?_)))
 ·refine sk (qc (cS (bl (cS (cr (sg rfl (ln (qc (cS (cS (cr ?_)))))))))))
  refine sg rfl (ln (qc (bl (kc_loop0 (A := Nat × Int) (fun zz => (zz.1 ≤ x.length) ∧ (zz.2 = loadTo c.args x k zz.1)) (fun zz => x.length - zz.1) (fun zz => [(8, .int .i64 (zz.1 : Int)), (7, .int .i64 zz.2)]) (0, (0 : Int)) (pk [1, 2, 5, 6, 11, 12] rfl) (pk [8, 7] rfl) ⟨Nat.zero_le _, rfl⟩ ?_))))
  rintro ⟨i, s⟩ hJ12
  obtain ⟨hk10, hi11⟩ : (i ≤ x.length) ∧ (s = loadTo c.args x k i) := hJ12
  change KC _ _ (_) _ _ ([(8, .int .i64 (i : Int)), (7, .int .i64 s)] ++ _)
  refine cS (cS (cr (mv rfl (mv rfl (ls9 rfl rfl ?_)))))
  refine ln (qc (ci9 rfl (fun c13 => ?_) (fun c13 => ?_)))
  ·have hl := load_le (x := x) h7.2 (by omega) k i (by omega)
   have hx1 := hs.val.at (k := i) (by omega)
   have ha1 := h7.2 _ (getD_mem (d := (0 : Int)) (by omega : i < c.args.length))
   refine sk (qc (cS (bl (cS (kc_draw 20 [true, true, true, true, true, true, true, true, true, true, true, true, true, true, true, true, true, true, true, true] (by kernel_rfl) (by kernel_rfl) ?_)))))
   refine mv rfl (mv rfl (mv rfl (kl_inI rfl rfl ‹_› (by omega) (fun p14 a15 => ?_))))
   refine ld rfl ‹_› (kl_geq rfl rfl ?_)
   refine mv rfl (jn 13 39 (.bool (decide ((x.getD i 0) ≤ (k : Int)) && decide ((k : Int) < ((x.getD i 0) + (c.args.getD i 0))))) (pk [1, 2, 5, 6, 7, 8, 11, 12, 15, 16, 17, 20, 21, 22, 23, 24, 25, 26] rfl) (fun J23 => ?_) ?_)
   ·rcases Bool.eq_false_or_eq_true (decide ((x.getD i 0) ≤ (k : Int))) with g16 | g16
    ·have g16p := of_decide_eq_true g16
     refine gT rfl rfl g16 (mv rfl (gT rfl rfl g16 (mv rfl (gT rfl rfl g16 (mv rfl (gT rfl rfl g16 (kl_inI rfl rfl ‹_› (by omega) (fun p17 a18 => ?_))))))))
     refine gT rfl rfl g16 (ld rfl ‹_› (gT rfl rfl g16 (fd9 rfl ‹_› (fun p19 a20 => ?_))))
     refine gT rfl rfl g16 (ld rfl ‹_› (gT rfl rfl g16 (mv rfl (gT rfl rfl g16 (kl_inI rfl rfl ‹_› (by omega) (fun p21 a22 => ?_))))))
     refine gT rfl rfl g16 (ld rfl ‹_› (gT rfl rfl g16 (ad9 rfl rfl (by omega) ?_)))
     refine gT rfl rfl g16 (ls9 rfl rfl ?_)
     refine aT rfl rfl g16 ?_
     exact J23 _ (pk [39, 1, 2, 5, 6, 7, 8, 11, 12, 15, 16, 17, 20, 21, 22, 23, 24, 25, 26] rfl)
    ·refine gF rfl rfl g16 (gF rfl rfl g16 (gF rfl rfl g16 (gF rfl rfl g16 (gF rfl rfl g16 (gF rfl rfl g16 (gF rfl rfl g16 (gF rfl rfl g16 (gF rfl rfl g16 ?_))))))))
     refine gF rfl rfl g16 (gF rfl rfl g16 (gF rfl rfl g16 (aF (decide ((k : Int) < ((x.getD i 0) + (c.args.getD i 0)))) rfl rfl g16 ?_)))
     exact J23 _ (pk [39, 1, 2, 5, 6, 7, 8, 11, 12, 15, 16, 17, 20, 21, 22, 23, 24, 25, 26] rfl)
   refine ln (qc (cd9 rfl (fun c24 => ?_) (fun c24 => ?_)))
   ·have c24r := c24
    try simp only [smpE] at c24
    have ha2 := h7.2 _ (getD_mem (d := (0 : Int)) (by omega : x.length + i < c.args.length))
    refine cr (mv rfl (fd9 rfl ‹_› (fun p25 a26 => ?_)))
    refine ld rfl ‹_› (mv rfl (mv rfl (kl_addN rfl rfl (by omega) ?_)))
    refine kl_inI rfl rfl ‹_› (by omega) (fun p27 a28 => ?_)
    refine ld rfl ‹_› (ad9 rfl rfl (by omega) ?_)
    refine sg rfl (ln (qc (cr (mv rfl (ic9 rfl rfl (by omega) ?_)))))
    refine sg rfl (ln (kq_round0 ((i + 1), (s + (c.args.getD (x.length + i) 0))) (by omega) (⟨by omega, (by first | exact load_stepT hi11 ‹_› | exact load_stepF hi11 ‹_›)⟩) (pk [8, 7] rfl) (pk [1, 2, 5, 6, 11, 12] rfl) slr9))
   ·have c24r := c24
    try simp only [smpE] at c24
    refine sk (qc (cr (mv rfl (ic9 rfl rfl (by omega) ?_))))
    refine sg rfl (ln (kq_round0 ((i + 1), s) (by omega) (⟨by omega, (by first | exact load_stepT hi11 ‹_› | exact load_stepF hi11 ‹_›)⟩) (pk [8, 7] rfl) (pk [1, 2, 5, 6, 11, 12] rfl) slr9))
  ·refine ex9 (qc (cS (cr (mv rfl (fd9 rfl ‹_› (fun p29 a30 => ?_))))))
   refine ld rfl ‹_› (kl_gtr rfl rfl ?_)
   refine ln (qc (ci9 rfl (fun c31 => ?_) (fun c31 => ?_)))
   ·refine cS (cr (sg rfl (ln (qc (rt (kq_retP rfl rfl (congrArg Value.bool ?_)))))))
    exact room_no' (k := k) (by omega) hi11 (by omega) ‹_›
   ·refine sk (qc (cr (mv rfl (ic9 rfl rfl (by omega) ?_))))
    refine sg rfl (ln (kq_round0 ((k + 1)) (by omega) (⟨by omega, room_step hi7 hi11 (by omega) ‹_›⟩) (pc 6 rfl pn) (pk [1, 2, 5] rfl) slr9))
 ·refine ex9 (qc (cS (cr (sg rfl (ln (qc (rt (kq_retP rfl rfl (congrArg Value.bool ?_)))))))))
  exact room_yes hi7 (by omega)
theorem saccepts_ok {Hcv : Hp} {vcv : Value} {Hca : Hp} {vca : Value} {Hcr : Hp} {vcr : Value} {Hx : Hp} {vx : Value} (c : Con) (x : List Int) (hs : SatOk c x) (hk : c.kind = 8) (hcv : Ints Hcv vcv c.vars) (hca : Ints Hca vca c.args) (hcr : Rows Hcr vcr c.rows) (hx : Ints Hx vx x) : SpecP Tryz.prog 211 [.agg #[.int .i64 c.kind, vcv, vca, .int .i64 c.bound, vcr], vx] [Hcv, Hca, Hcr, Hx] (.bool (accB c x)) := by
 have h8 := hs.k8 hk
 have h8r := hs.k8r hk
 refine spec_of Tryz.func211 rfl rfl rfl (fun B => ?_)
 refine cS (cr (kl_box rfl rfl (fun p1 H2 f3 a4 => ?_)))
 refine sg rfl (ln (qc (cS (cr (sg rfl (ln (qc (cS (cS (cr (sg rfl (ln (qc (bl ?_))))))))))))))
 refine kc_loop0 (A := Nat × Int) (fun zz => (zz.1 ≤ x.length) ∧ (0 ≤ zz.2 ∧ zz.2 < c.rows.length ∧ accGo c.rows zz.2 (x.drop zz.1) = accGo c.rows 0 x)) (fun zz => x.length - zz.1) (fun zz => [(6, .int .i64 (zz.1 : Int)), (5, .int .i64 zz.2)]) (0, (0 : Int)) (pk [1, 2] rfl) (pk [6, 5] rfl) ⟨Nat.zero_le _, ⟨by dsimp only; omega, by dsimp only; omega, by simp⟩⟩ ?_
 rintro ⟨k, s⟩ hJ7
 obtain ⟨hk5, hi6⟩ : (k ≤ x.length) ∧ (0 ≤ s ∧ s < c.rows.length ∧ accGo c.rows s (x.drop k) = accGo c.rows 0 x) := hJ7
 change KC _ _ (_) _ _ ([(6, .int .i64 (k : Int)), (5, .int .i64 s)] ++ _)
 refine cS (cS (cr (mv rfl (mv rfl (le9 rfl ‹_› (fun l8 => ?_))))))
 refine ls9 rfl rfl ?_
 refine ln (qc (ci9 rfl (fun c9 => ?_) (fun c9 => ?_)))
 ·have hr := h8.2 _ (getD_mem (d := ([] : List Int)) (by omega : s.toNat < c.rows.length))
  have hx1 := hs.val.at (k := k) (by omega)
  refine sk (qc (cS (bl (cS (kc_draw 12 [true, true, true, true, true, true, true, true, true, true, true, true] (by kernel_rfl) (by kernel_rfl) ?_)))))
  refine fd9 rfl ‹_› (fun p10 a11 => ?_)
  refine ld rfl ‹_› (mv rfl (kl_ixS rfl rfl ‹_› (by omega) (by omega) (fun p12 u14 h15 a13 => ?_)))
  refine ld rfl ‹_› (mv rfl (mv rfl (kl_inI rfl rfl ‹_› (by omega) (fun p16 a17 => ?_))))
  refine ld rfl ‹_› (kl_ixI rfl rfl ‹_› (by omega) (by omega) (fun p18 a19 => ?_))
  refine ld rfl ‹_› (sg rfl (ln (qc (cS (cr (mv rfl (ls9 rfl rfl ?_)))))))
  refine ln (qc (ci9 rfl (fun c20 => ?_) (fun c20 => ?_)))
  ·refine cS (cr (sg rfl (ln (qc (rt (kq_retP rfl rfl (congrArg Value.bool ?_)))))))
   exact acc_no (k := k) (by omega) hi6.2.2 ‹_›
  ·refine sk (qc (cr (mv rfl (ic9 rfl rfl (by omega) ?_))))
   refine sg rfl (ln (kq_round0 ((k + 1), ((c.rows.getD s.toNat []).getD (x.getD k 0).toNat 0)) (by omega) (⟨by omega, acc_step h8r (by omega) ⟨hi6.1, hi6.2.1⟩ hx1 hi6.2.2 ‹_›⟩) (pk [6, 5] rfl) (pk [1, 2] rfl) slr9))
 ·refine ex9 (qc (cS (cS (cr (sg rfl (ln (qc (bl (kc_loop0 (A := Nat) (fun zz => (zz ≤ c.args.length) ∧ ((c.args.take zz).any (fun y => decide (y = s)) = false)) (fun zz => c.args.length - zz) (fun zz => [(7, .int .i64 (zz : Int))]) (0) (pk [2, 5] rfl) (pc 7 rfl pn) ⟨Nat.zero_le _, by simp⟩ ?_)))))))))
  rintro j hJ23
  obtain ⟨hk21, hi22⟩ : (j ≤ c.args.length) ∧ ((c.args.take j).any (fun y => decide (y = s)) = false) := hJ23
  change KC _ _ (_) _ _ ([(7, .int .i64 (j : Int))] ++ _)
  refine cS (cS (cr (mv rfl (fd9 rfl ‹_› (fun p24 a25 => ?_)))))
  refine ld rfl ‹_› (le9 rfl ‹_› (fun l26 => ?_))
  refine ls9 rfl rfl ?_
  refine ln (qc (ci9 rfl (fun c27 => ?_) (fun c27 => ?_)))
  ·refine sk (qc (cS (bl (cS (cr (fd9 rfl ‹_› (fun p28 a29 => ?_)))))))
   refine ld rfl ‹_› (mv rfl (kl_inI rfl rfl ‹_› (by omega) (fun p30 a31 => ?_)))
   refine ld rfl ‹_› (mv rfl (eq9 rfl rfl ?_))
   refine ln (qc (ci9 rfl (fun c32 => ?_) (fun c32 => ?_)))
   ·refine cS (cr (sg rfl (ln (qc (rt (kq_retP rfl rfl (congrArg Value.bool ?_)))))))
    rw [← acc_yes (k := k) (by omega) hi6.1 hi6.2.2]; exact contains_hit (k := j) (by omega) ‹_›
   ·refine sk (qc (cr (mv rfl (ic9 rfl rfl (by omega) ?_))))
    refine sg rfl (ln (kq_round0 ((j + 1)) (by omega) (⟨by omega, any_take_step (d := 0) (by omega) hi22 (by simpa using by assumption)⟩) (pc 7 rfl pn) (pk [2, 5] rfl) slr9))
  ·refine ex9 (qc (cS (cr (sg rfl (ln (qc (rt (kq_retP rfl rfl (congrArg Value.bool ?_)))))))))
   rw [← acc_yes (k := k) (by omega) hi6.1 hi6.2.2]; exact contains_none (by omega) ‹_›
theorem circuit_ok {Hx : Hp} {vx : Value} (x : List Int) (h1 : 1 ≤ x.length) (hv : Vals x) (hx : Ints Hx vx x) : SpecP Tryz.prog 212 [vx] [Hx] (.bool (cycB x)) := by
 refine spec_of Tryz.func212 rfl rfl rfl (fun B => ?_)
 refine cS (cr (sg rfl (ln (qc (cS (cr (sg rfl (ln (qc (cS (cS (cr (sg rfl (ln (qc ?_)))))))))))))))
 refine bl (kc_loop0 (A := Nat × Int) (fun zz => (1 ≤ zz.1 ∧ zz.1 ≤ x.length + 1) ∧ (0 ≤ zz.2 ∧ zz.2 < x.length ∧ cycSGo x (x.length + 1 - zz.1) zz.2 (zz.1 : Int) = cycB x)) (fun zz => (x.length + 1) - zz.1) (fun zz => [(4, .int .i64 (zz.1 : Int)), (3, .int .i64 zz.2)]) (1, (0 : Int)) (pc 0 rfl pn) (pk [4, 3] rfl) ⟨by constructor <;> omega, ⟨by dsimp only; omega, by dsimp only; omega, rfl⟩⟩ ?_)
 rintro ⟨k, a⟩ hJ3
 obtain ⟨hk1, hi2⟩ : (1 ≤ k ∧ k ≤ x.length + 1) ∧ (0 ≤ a ∧ a < x.length ∧ cycSGo x (x.length + 1 - k) a (k : Int) = cycB x) := hJ3
 change KC _ _ (_) _ _ ([(4, .int .i64 (k : Int)), (3, .int .i64 a)] ++ _)
 refine cS (cS (cr (mv rfl (mv rfl (le9 rfl ‹_› (fun l4 => ?_))))))
 refine kl_leq rfl rfl ?_
 refine ln (qc (ci9 rfl (fun c5 => ?_) (fun c5 => ?_)))
 ·refine sk (qc (cS (bl (cS (cS (cr (mv rfl (mv rfl (kl_ixI rfl rfl ‹_› (by omega) (by omega) (fun p6 a7 => ?_))))))))))
  refine ld rfl ‹_› (mv rfl (le9 rfl ‹_› (fun l8 => ?_)))
  refine kl_geq rfl rfl ?_
  refine ln (qc (ci9 rfl (fun c9 => ?_) (fun c9 => ?_)))
  ·refine cS (cr (sg rfl (ln (qc (rt (kq_retP rfl rfl (congrArg Value.bool ?_)))))))
   (have h := cycS_at hi2.2.2 (by omega); rw [if_pos ‹_›] at h; exact h.symm)
  ·refine sk (qc (cS (cr (mv rfl (mv rfl (kl_ixI rfl rfl ‹_› (by omega) (by omega) (fun p10 a11 => ?_)))))))
   refine ld rfl ‹_› (sg rfl (ln (qc (cS (cr (mv rfl (eq9 rfl rfl ?_)))))))
   refine ln (qc (ci9 rfl (fun c12 => ?_) (fun c12 => ?_)))
   ·refine cS (cr (mv rfl (mv rfl (le9 rfl ‹_› (fun l13 => ?_)))))
    refine eq9 rfl rfl ?_
    refine sg rfl (ln (qc (rt (kq_retP rfl rfl (congrArg Value.bool ?_)))))
    (have h := cycS_at hi2.2.2 (by omega); rw [if_neg ‹_›, if_pos ‹_›] at h; exact h.symm)
   ·refine sk (qc (cr (mv rfl (ic9 rfl rfl (by omega) ?_))))
    refine sg rfl (ln (kq_round0 ((k + 1), (x.getD a.toNat 0)) (by omega) (⟨by constructor <;> omega, (by have h := cycS_at hi2.2.2 (by omega); rw [if_neg ‹_›, if_neg ‹_›] at h; exact ⟨(hv _ (getD_mem (by omega))).1, by omega, h.symm⟩)⟩) (pk [4, 3] rfl) (pc 0 rfl pn) slr9))
 ·refine ex9 (qc (cS (cr (sg rfl (ln (qc (rt (kq_retP rfl rfl (congrArg Value.bool ?_)))))))))
  exact cycS_0 hi2.2.2 ‹_›
theorem hasRow_ok {Hrows : Hp} {vrows : Value} {Hx : Hp} {vx : Value} (rows : List (List Int)) (x : List Int) (hr : ∀ r ∈ rows, r.length = x.length) (hrows : Rows Hrows vrows rows) (hx : Ints Hx vx x) : SpecP Tryz.prog 209 [vrows, vx] [Hrows, Hx] (.bool (rows.any (fun r => decide (r = x)))) := by
 refine spec_of Tryz.func209 rfl rfl rfl (fun B => ?_)
 refine cS (cr (sg rfl (ln (qc (cS (cS (cr (sg rfl (ln (qc (bl (kc_loop0 (A := Nat) (fun zz => (zz ≤ rows.length) ∧ ((rows.take zz).any (fun r => decide (r = x)) = false)) (fun zz => rows.length - zz) (fun zz => [(5, .int .i64 (zz : Int))]) (0) (pk [0, 1] rfl) (pc 5 rfl pn) ⟨Nat.zero_le _, by simp⟩ ?_))))))))))))
 rintro k hJ3
 obtain ⟨hk1, hi2⟩ : (k ≤ rows.length) ∧ ((rows.take k).any (fun r => decide (r = x)) = false) := hJ3
 change KC _ _ (_) _ _ ([(5, .int .i64 (k : Int))] ++ _)
 refine cS (cS (cr (mv rfl (mv rfl (le9 rfl ‹_› (fun l4 => ?_))))))
 refine ls9 rfl rfl ?_
 refine ln (qc (ci9 rfl (fun c5 => ?_) (fun c5 => ?_)))
 ·have hr1 := hr _ (getD_mem (d := ([] : List Int)) (by omega : k < rows.length))
  refine sk (qc (cS (bl (cS (cr (sg rfl (ln (qc (cS (cS (cr ?_)))))))))))
  refine sg rfl (ln (qc (bl (kc_loop0 (A := Nat × Bool) (fun zz => (zz.1 ≤ x.length) ∧ (zz.2 = decide ((rows.getD k []).take zz.1 = x.take zz.1))) (fun zz => x.length - zz.1) (fun zz => [(7, .int .i64 (zz.1 : Int)), (6, .bool zz.2)]) (0, true) (pk [0, 1, 5, 8, 9, 10, 11] rfl) (pk [7, 6] rfl) ⟨Nat.zero_le _, by simp⟩ ?_))))
  rintro ⟨j, b⟩ hJ8
  obtain ⟨hk6, hi7⟩ : (j ≤ x.length) ∧ (b = decide ((rows.getD k []).take j = x.take j)) := hJ8
  change KC _ _ (_) _ _ ([(7, .int .i64 (j : Int)), (6, .bool b)] ++ _)
  refine cS (cS (cr (mv rfl (mv rfl (le9 rfl ‹_› (fun l9 => ?_))))))
  refine ls9 rfl rfl ?_
  refine ln (qc (ci9 rfl (fun c10 => ?_) (fun c10 => ?_)))
  ·refine sk (qc (cS (bl (kc_draw 16 [true, true, true, true, true, true, true, true, true, true, true, true, true, true, true, true] (by kernel_rfl) (by kernel_rfl) ?_))))
   refine mv rfl (mv rfl (jn 13 34 (.bool (b && decide (((rows.getD k []).getD j 0) = (x.getD j 0)))) (pk [0, 1, 5, 6, 7, 8, 9, 10, 11, 14, 15, 16, 17, 20, 21] rfl) (fun J20 => ?_) ?_))
   ·rcases Bool.eq_false_or_eq_true b with g11 | g11
    ·have g11p := g11
     try simp only [smpD] at g11p
     refine gT rfl rfl g11 (mv rfl (gT rfl rfl g11 (mv rfl (gT rfl rfl g11 (kl_inS rfl rfl ‹_› (by omega) (fun p12 u14 h15 a13 => ?_))))))
     refine gT rfl rfl g11 (ld rfl ‹_› (gT rfl rfl g11 (mv rfl (gT rfl rfl g11 (kl_inI rfl rfl ‹_› (by omega) (fun p16 a17 => ?_))))))
     refine gT rfl rfl g11 (ld rfl ‹_› (gT rfl rfl g11 (mv rfl (gT rfl rfl g11 (mv rfl (gT rfl rfl g11 (kl_inI rfl rfl ‹_› (by omega) (fun p18 a19 => ?_))))))))
     refine gT rfl rfl g11 (ld rfl ‹_› (gT rfl rfl g11 (eq9 rfl rfl ?_)))
     refine aT rfl rfl g11 ?_
     exact J20 _ (pk [34, 0, 1, 5, 6, 7, 8, 9, 10, 11, 14, 15, 16, 17, 20, 21] rfl)
    ·refine gF rfl rfl g11 (gF rfl rfl g11 (gF rfl rfl g11 (gF rfl rfl g11 (gF rfl rfl g11 (gF rfl rfl g11 (gF rfl rfl g11 (gF rfl rfl g11 (gF rfl rfl g11 ?_))))))))
     refine gF rfl rfl g11 (gF rfl rfl g11 (gF rfl rfl g11 (aF (decide (((rows.getD k []).getD j 0) = (x.getD j 0))) rfl rfl g11 ?_)))
     exact J20 _ (pk [34, 0, 1, 5, 6, 7, 8, 9, 10, 11, 14, 15, 16, 17, 20, 21] rfl)
   refine sg rfl (ln (qc (cr (mv rfl (ic9 rfl rfl (by omega) ?_)))))
   refine sg rfl (ln (kq_round0 ((j + 1), (b && decide (((rows.getD k []).getD j 0) = (x.getD j 0)))) (by omega) (⟨by omega, row_step (by omega) hr1 hi7⟩) (pk [7, 6] rfl) (pk [0, 1, 5, 8, 9, 10, 11] rfl) slr9))
  ·refine ex9 (qc (cS (cr (mv rfl (ln (qc (cd9 rfl (fun c21 => ?_) (fun c21 => ?_))))))))
   ·have c21r := c21
    try simp only [smpE] at c21
    refine cS (cr (sg rfl (ln (qc (rt (kq_retP rfl rfl (congrArg Value.bool ?_)))))))
    exact (any_true (d := []) (k := k) (by omega) (row_eq (by omega) hr1 hi7 ‹_›)).symm
   ·have c21r := c21
    try simp only [smpE] at c21
    refine sk (qc (cr (mv rfl (ic9 rfl rfl (by omega) ?_))))
    refine sg rfl (ln (kq_round0 ((k + 1)) (by omega) (⟨by omega, any_take_step (d := []) (by omega) hi2 (row_neq (by omega) hr1 hi7 ‹_›)⟩) (pc 5 rfl pn) (pk [0, 1] rfl) slr9))
 ·refine ex9 (qc (cS (cr (sg rfl (ln (qc (rt (kq_retP rfl rfl (congrArg Value.bool ?_)))))))))
  rw [List.take_of_length_le (by omega)] at *; exact (by assumption : rows.any (fun r => decide (r = x)) = false).symm
theorem satisfies_ok {Hcv : Hp} {vcv : Value} {Hca : Hp} {vca : Value} {Hcr : Hp} {vcr : Value} {Hx : Hp} {vx : Value} (c : Con) (x : List Int) (hs : SatOk c x) (hcv : Ints Hcv vcv c.vars) (hca : Ints Hca vca c.args) (hcr : Rows Hcr vcr c.rows) (hx : Ints Hx vx x) : SpecP Tryz.prog 195 [.agg #[.int .i64 c.kind, vcv, vca, .int .i64 c.bound, vcr], vx] [Hcv, Hca, Hcr, Hx] (.bool (satB c x)) := by
 have h4 := hs.four
 have h1 := hs.one
 refine spec_of Tryz.func195 rfl rfl rfl (fun B => ?_)
 refine cS (cr (kl_box rfl rfl (fun p1 H2 f3 a4 => ?_)))
 refine sg rfl (ln (qc (cS (cS (cr (fd9 rfl ‹_› (fun p5 a6 => ?_)))))))
 refine ld rfl ‹_› (ln (qc (bl (cS (cr (eq9 rfl rfl ?_))))))
 refine sg rfl (ln (qc (ci9 rfl (fun c7 => ?_) (fun c7 => ?_))))
 ·have hk := hs.k1 c7
  refine cS (cr (sg rfl (ln (qc (cS (cS (cr (sg rfl (ln (qc (bl (kc_loop0 (A := Nat × Int) (fun zz => (zz.1 ≤ x.length) ∧ (zz.2 = dotTo c.args x zz.1)) (fun zz => x.length - zz.1) (fun zz => [(6, .int .i64 (zz.1 : Int)), (5, .int .i64 zz.2)]) (0, (0 : Int)) (pk [1, 2, 4] rfl) (pk [6, 5] rfl) ⟨Nat.zero_le _, rfl⟩ ?_))))))))))))
  rintro ⟨k, s⟩ hJ10
  obtain ⟨hk8, hi9⟩ : (k ≤ x.length) ∧ (s = dotTo c.args x k) := hJ10
  change KC _ _ (_) _ _ ([(6, .int .i64 (k : Int)), (5, .int .i64 s)] ++ _)
  refine cS (cS (cr (mv rfl (mv rfl (le9 rfl ‹_› (fun l11 => ?_))))))
  refine ls9 rfl rfl ?_
  refine ln (qc (ci9 rfl (fun c12 => ?_) (fun c12 => ?_)))
  ·try (
    have ha1 := hk.2.at (k := k) (by omega)
    have hx1 := hs.val.at (k := k) (by omega)
    have h3 := prod_le ha1 hx1
    have h5 := dot_le hk.2 hs.val k (by omega) (by omega))
   refine sk (qc (cS (bl (kc_draw 13 [true, true, true, true, true, true, true, true, true, true, true, true, true] (by kernel_rfl) (by kernel_rfl) ?_))))
   refine mv rfl (fd9 rfl ‹_› (fun p13 a14 => ?_))
   refine ld rfl ‹_› (mv rfl (kl_inI rfl rfl ‹_› (by omega) (fun p15 a16 => ?_)))
   refine ld rfl ‹_› (mv rfl (mv rfl (kl_inI rfl rfl ‹_› (by omega) (fun p17 a18 => ?_))))
   refine ld rfl ‹_› (kl_mul rfl rfl (by omega) ?_)
   refine ad9 rfl rfl (by omega) ?_
   refine sg rfl (ln (qc (cr (mv rfl (ic9 rfl rfl (by omega) ?_)))))
   refine sg rfl (ln (kq_round0 ((k + 1), (s + ((c.args.getD k 0) * (x.getD k 0)))) (by omega) (⟨by omega, (by rw [dot_succ, ← hi9])⟩) (pk [6, 5] rfl) (pk [1, 2, 4] rfl) slr9))
  ·refine ex9 (qc (cS (cr (mv rfl (fd9 rfl ‹_› (fun p19 a20 => ?_))))))
   refine ld rfl ‹_› (kl_leq rfl rfl ?_)
   refine sg rfl (ln (qc (rt (kq_retP rfl rfl (congrArg Value.bool ?_)))))
   rw [sat_1 ‹_›, hi9, show k = x.length from by omega]
 ·refine cS (cr (eq9 rfl rfl ?_))
  refine sg rfl (ln (qc (ci9 rfl (fun c21 => ?_) (fun c21 => ?_))))
  ·have hk := hs.k2 c21
   have hk1 := hs.val.at (k := 1) (by omega)
   have hk2 := hk.2.2.at (k := 0) (by omega)
   refine cS (kc_draw 13 [true, true, true, true, true, true, true, true, true, true, true, true, true] (by kernel_rfl) (by kernel_rfl) ?_)
   refine mv rfl (kl_inI (i := 0) rfl rfl ‹_› (by omega) (fun p22 a23 => ?_))
   refine ld rfl ‹_› (mv rfl (kl_inI (i := 1) rfl rfl ‹_› (by omega) (fun p24 a25 => ?_)))
   refine ld rfl ‹_› (fd9 rfl ‹_› (fun p26 a27 => ?_))
   refine ld rfl ‹_› (kl_inI (i := 0) rfl rfl ‹_› (by omega) (fun p28 a29 => ?_))
   refine ld rfl ‹_› (ad9 rfl rfl (by omega) ?_)
   refine kl_neq rfl rfl ?_
   refine sg rfl (ln (qc (rt (kq_retP rfl rfl (congrArg Value.bool ?_)))))
   rw [sat_2 ‹_›]
  ·refine cS (cr (eq9 rfl rfl ?_))
   refine sg rfl (ln (qc (ci9 rfl (fun c30 => ?_) (fun c30 => ?_))))
   ·refine cS (cr (mv rfl (cP rfl rfl (sdistinct_ok x ‹_›) ?_)))
    refine sg rfl (ln (qc (rt (kq_retP rfl rfl (congrArg Value.bool ?_)))))
    rw [sat_3 ‹_›]
   ·refine cS (cr (eq9 rfl rfl ?_))
    refine sg rfl (ln (qc (ci9 rfl (fun c31 => ?_) (fun c31 => ?_))))
    ·have hk := hs.k4 c31
     have hk1 := hs.val.at (k := 0) (by omega)
     refine cS (kc_draw 21 [true, true, true, true, true, true, true, true, true, true, true, true, true, true, true, true, true, true, true, true, true] (by kernel_rfl) (by kernel_rfl) ?_)
     refine mv rfl (kl_inI (i := 0) rfl rfl ‹_› (by omega) (fun p32 a33 => ?_))
     refine ld rfl ‹_› (fd9 rfl ‹_› (fun p34 a35 => ?_))
     refine ld rfl ‹_› (le9 rfl ‹_› (fun l36 => ?_))
     refine ls9 rfl rfl ?_
     refine mv rfl (jn 12 74 (.bool (decide ((x.getD 0 0) < (c.args.length : Int)) && decide ((c.args.getD (x.getD 0 0).toNat 0) = (x.getD 1 0)))) (pk [1, 4, 62] rfl) (fun J46 => ?_) ?_)
     ·rcases Bool.eq_false_or_eq_true (decide ((x.getD 0 0) < (c.args.length : Int))) with g37 | g37
      ·have g37p := of_decide_eq_true g37
       refine gT rfl rfl g37 (fd9 rfl ‹_› (fun p38 a39 => ?_))
       refine gT rfl rfl g37 (ld rfl ‹_› (gT rfl rfl g37 (mv rfl (gT rfl rfl g37 (kl_inI (i := 0) rfl rfl ‹_› (by omega) (fun p40 a41 => ?_))))))
       refine gT rfl rfl g37 (ld rfl ‹_› (gT rfl rfl g37 (kl_ixI rfl rfl ‹_› (by omega) (by omega) (fun p42 a43 => ?_))))
       refine gT rfl rfl g37 (ld rfl ‹_› (gT rfl rfl g37 (mv rfl (gT rfl rfl g37 (kl_inI (i := 1) rfl rfl ‹_› (by omega) (fun p44 a45 => ?_))))))
       refine gT rfl rfl g37 (ld rfl ‹_› (gT rfl rfl g37 (eq9 rfl rfl ?_)))
       refine aT rfl rfl g37 ?_
       exact J46 _ (pk [74, 1, 4, 62] rfl)
      ·refine gF rfl rfl g37 (gF rfl rfl g37 (gF rfl rfl g37 (gF rfl rfl g37 (gF rfl rfl g37 (gF rfl rfl g37 (gF rfl rfl g37 (gF rfl rfl g37 (gF rfl rfl g37 ?_))))))))
       refine gF rfl rfl g37 (gF rfl rfl g37 (aF (decide ((c.args.getD (x.getD 0 0).toNat 0) = (x.getD 1 0))) rfl rfl g37 ?_))
       exact J46 _ (pk [74, 1, 4, 62] rfl)
     refine sg rfl (ln (qc (rt (kq_retP rfl rfl (congrArg Value.bool ?_)))))
     rw [sat_4 ‹_›]
    ·refine cS (cr (eq9 rfl rfl ?_))
     refine sg rfl (ln (qc (ci9 rfl (fun c47 => ?_) (fun c47 => ?_))))
     ·have hk := hs.k5 c47
      refine cS (cr (fd9 rfl ‹_› (fun p48 a49 => ?_)))
      refine ld rfl ‹_› (mv rfl (cP rfl rfl (hasRow_ok c.rows x hk ‹_› ‹_›) ?_))
      refine sg rfl (ln (qc (rt (kq_retP rfl rfl (congrArg Value.bool ?_)))))
      rw [sat_5 ‹_›]
     ·refine cS (cr (eq9 rfl rfl ?_))
      refine sg rfl (ln (qc (ci9 rfl (fun c50 => ?_) (fun c50 => ?_))))
      ·have hk := hs.k6 c50
       refine cS (cr (sg rfl (ln (qc (cS (cS (cr (sg rfl (ln (qc (bl (kc_loop0 (A := Nat × Int) (fun zz => (zz.1 ≤ x.length) ∧ (zz.2 = cntTo x (c.args.getD 0 0) zz.1)) (fun zz => x.length - zz.1) (fun zz => [(8, .int .i64 (zz.1 : Int)), (7, .int .i64 zz.2)]) (0, (0 : Int)) (pk [1, 2, 4] rfl) (pk [8, 7] rfl) ⟨Nat.zero_le _, rfl⟩ ?_))))))))))))
       rintro ⟨k, s⟩ hJ53
       obtain ⟨hk51, hi52⟩ : (k ≤ x.length) ∧ (s = cntTo x (c.args.getD 0 0) k) := hJ53
       change KC _ _ (_) _ _ ([(8, .int .i64 (k : Int)), (7, .int .i64 s)] ++ _)
       have hcl := cnt_le x (c.args.getD 0 0) k
       refine cS (cS (cr (mv rfl (mv rfl (le9 rfl ‹_› (fun l54 => ?_))))))
       refine ls9 rfl rfl ?_
       refine ln (qc (ci9 rfl (fun c55 => ?_) (fun c55 => ?_)))
       ·try (
         have ha1 := hk.2.at (k := k) (by omega)
         have hx1 := hs.val.at (k := k) (by omega)
         have h3 := prod_le ha1 hx1
         have h5 := dot_le hk.2 hs.val k (by omega) (by omega))
        refine sk (qc (cS (bl (cS (kc_draw 9 [true, true, true, true, true, true, true, true, true] (by kernel_rfl) (by kernel_rfl) ?_)))))
        refine mv rfl (mv rfl (kl_inI rfl rfl ‹_› (by omega) (fun p56 a57 => ?_)))
        refine ld rfl ‹_› (fd9 rfl ‹_› (fun p58 a59 => ?_))
        refine ld rfl ‹_› (kl_inI (i := 0) rfl rfl ‹_› (by omega) (fun p60 a61 => ?_))
        refine ld rfl ‹_› (eq9 rfl rfl ?_)
        refine ln (qc (ci9 rfl (fun c62 => ?_) (fun c62 => ?_)))
        ·refine cr (mv rfl (ad9 rfl rfl (by omega) ?_))
         refine sg rfl (ln (qc (cr (mv rfl (ic9 rfl rfl (by omega) ?_)))))
         refine sg rfl (ln (kq_round0 ((k + 1), (s + (1 : Int))) (by omega) (⟨by omega, (by first | exact cnt_stepT hi52 (by omega) ‹_› | exact cnt_stepF hi52 (by omega) ‹_›)⟩) (pk [8, 7] rfl) (pk [1, 2, 4] rfl) slr9))
        ·refine sk (qc (cr (mv rfl (ic9 rfl rfl (by omega) ?_))))
         refine sg rfl (ln (kq_round0 ((k + 1), s) (by omega) (⟨by omega, (by first | exact cnt_stepT hi52 (by omega) ‹_› | exact cnt_stepF hi52 (by omega) ‹_›)⟩) (pk [8, 7] rfl) (pk [1, 2, 4] rfl) slr9))
       ·refine ex9 (qc (cS (cr (mv rfl (fd9 rfl ‹_› (fun p63 a64 => ?_))))))
        refine ld rfl ‹_› (eq9 rfl rfl ?_)
        refine sg rfl (ln (qc (rt (kq_retP rfl rfl (congrArg Value.bool ?_)))))
        rw [sat_6 ‹_›, hi52, show k = x.length from by omega]
      ·refine cS (cr (eq9 rfl rfl ?_))
       refine sg rfl (ln (qc (ci9 rfl (fun c65 => ?_) (fun c65 => ?_))))
       ·refine cS (cr (kl_ldS rfl ‹_› rfl ?_))
        refine mv rfl (cP rfl rfl (capacity_ok c x hs ‹_› ‹_› ‹_› ‹_› ‹_›) ?_)
        refine sg rfl (ln (qc (rt (kq_retP rfl rfl (congrArg Value.bool ?_)))))
        rw [sat_7 ‹_›]
       ·refine cS (cr (eq9 rfl rfl ?_))
        refine sg rfl (ln (qc (ci9 rfl (fun c66 => ?_) (fun c66 => ?_))))
        ·refine cS (cr (kl_ldS rfl ‹_› rfl ?_))
         refine mv rfl (cP rfl rfl (saccepts_ok c x hs ‹_› ‹_› ‹_› ‹_› ‹_›) ?_)
         refine sg rfl (ln (qc (rt (kq_retP rfl rfl (congrArg Value.bool ?_)))))
         rw [sat_8 ‹_›]
        ·refine sk (qc (cS (cr (mv rfl (cP rfl rfl (circuit_ok x hs.one hs.val ‹_›) ?_)))))
         refine sg rfl (ln (qc (rt (kq_retP rfl rfl (congrArg Value.bool ?_)))))
         rw [sat_9 ‹_› ‹_› ‹_› ‹_› ‹_› ‹_› ‹_› ‹_›]
end
end Go.Proofs.YtolndgeihijlbaaGreat
