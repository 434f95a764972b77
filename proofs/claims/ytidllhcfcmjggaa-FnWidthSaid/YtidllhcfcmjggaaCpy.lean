/- copy into lists that a call owns, elements of one cell. Conditions: none. -/
import Derived.Test.YtidllhcfcmjggaaCut
namespace Go.Proofs.Ytidllhcfcmjggaa
open Go
set_option linter.unusedSimpArgs false
set_option linter.unusedVariables false
section ops
variable {C : Cx} {dr : Bool} {ops : Array Oper} {Q : Post} {ims L : List Hp} {G : Env} {fl : List Bool} {rest : List Oper} {d ty : Nat} {pos : String} {af : Array Edge}
variable {A : Type} {R : Rel A} {E : Nat} {H K : Hp} {v : Value} {xs : List A} {x y : Operand} {T T2 by' : Nat} {z : Value}
/-- What a copy into an owned list leaves: the cells from o on are cs. -/
theorem kl_cpG {b o n2 c2 : Nat} {t u : Value} {cur : Array Value} {cs : List Value} {F : Hp → List Hp} [hT : IsSlice C.P T E 1 by' z] [hF : UpdF (sing b (.cells cur E (0, 0))) L F]
    (hx : ev G x = some t) (hy : ev G y = some u) {dl dc : Nat} (ht : t = .slice (some ⟨b, o, none⟩) dl dc) {sa : Addr} (hu : u = .slice (some sa) n2 c2) (hn : cs.length = Nat.min n2 dl) (hfit : o + cs.length ≤ cur.size) (h1 : ∀ v ∈ cs, v.oneCell' = true)
    (hsrc : ∀ w : World, St C.B C.X ims L w → ∀ j v, cs[j]? = some v → w.cell? (sa.add j) = some v)
    (h : KL C dr ops Q ims (F (sing b (.cells (cur.toList.take o ++ cs ++ cur.toList.drop (o + cs.length)).toArray E (0, 0)))) fl.tail rest ((d, .int .i64 (cs.length : Int)) :: G)) (hlt : Nat.blt d C.n = true := by rfl) (hfl : fl.headD false = false := by rfl) (hdr : (!dr || rest.isEmpty || C.lo) = true := by rfl) :
    KL C dr ops Q ims L fl (⟨some d, .call ⟨.builtin .copy, #[x, y], #[T, T2]⟩, ty, pos, af, none⟩ :: rest) G :=
  kl_act rfl hfl fun a w hf hs => by
    subst ht hu
    obtain ⟨inf, hinfo, hz, hk, hbb⟩ := hT.info
    have hA := (hs.own _ (hF.u (sing b (.cells cur E (0, 0)))).mem).1 b _ (sing_self _ _)
    have hrun := run_copy_row C.P w T T2 ty E b o dl dc sa n2 c2 cur E cs hT.u (by rw [hinfo]; simp [hk]) hA hn (hsrc w hs) hfit h1
    have hdr' : rest = [] ∨ (dr = true → C.lo = true) := by
      cases dr with
      | true =>
        simp only [Bool.not_true, Bool.false_or, Bool.or_eq_true, List.isEmpty_iff] at hdr
        exact hdr.imp id (fun h _ => h)
      | false => right; intro e; cases e
    have hr : (execOp a.eval ⟨some d, .call ⟨.builtin .copy, #[x, y], #[T, T2]⟩, ty, pos, af, none⟩).run C.P w = .ok (.value (.int .i64 (cs.length : Int))) (w.setRow b (cur.toList.take o ++ cs ++ cur.toList.drop (o + cs.length)).toArray) := by
      simp only [execOp, resolve, Sem.run_bind, Sem.run_pure, Result.andThen_ok, invoke, builtin, List.map_toArray, List.map_cons, List.map_nil, hf.ev hx, hf.ev hy, hrun]
      rfl
    unfold Oper.wp
    rw [hr]
    refine ⟨ims, F (sing b (.cells (cur.toList.take o ++ cs ++ cur.toList.drop (o + cs.length)).toArray E (0, 0))), _, hdr'.imp id (fun h e u hu => hu.wlo (h e)), hf.put (by simpa [Nat.blt_eq, Cx.m] using hlt), hs.upd (u := ⟨hF.u _⟩) (by simp) (fun b' _ hn => ?_) (fun b' o' hb' => ?_) (fun b' hb' => .inl ?_) ⟨rfl, rfl⟩, h⟩
    · have hne : b' ≠ b := fun e => by subst e; simp at hn
      exact setRow_other w b b' _ hne
    · obtain ⟨rfl, rfl⟩ := sing_some hb'
      exact setRow_heap w _ cur _ E _ hA
    · by_cases e : b' = b
      · subst e; simp
      · simp [sing, e] at hb'
theorem take_len_zip {xs ys : List Value} {n : Nat} (h : n ≤ ys.length) : (ys.take n).length = n := by rw [List.length_take]; omega
theorem one_get {xs : List A} {cs : List Value} {K : Hp} (hl : cs.length = xs.length) (hR : ∀ i (hi : i < xs.length), R K ((cs.drop (i * 1)).take 1) xs[i]) {i : Nat} (hi : i < xs.length) : ∃ u, cs[i]? = some u ∧ R K [u] xs[i] := by
  have h3 := hR i hi
  simp only [Nat.mul_one] at h3
  rw [List.drop_eq_getElem_cons (by omega), List.take_succ_cons, List.take_zero] at h3
  exact ⟨cs[i], by simp [hl, hi], h3⟩
/-- copy of a fixed list into an owned one. -/
theorem kl_cpS {K2 : Hp} {u : Value} {R0 : List Value → A → Prop} {ys : List A} {F : Hp → List Hp} [hT : IsSlice C.P T E 1 by' z] [hO : ROne R] [hF : UpdF H L F] [hi : In K2 ims]
    (hx : ev G x = some v) (hy : ev G y = some u) (hv : OwnL E 1 H K R v xs) (hu : Sl K2 1 R0 u ys) (hR0 : ∀ vs a, R0 vs a → R K vs a) (h0 : 0 < xs.length) (h1 : 0 < ys.length) (hle : ys.length ≤ xs.length)
    (h : ∀ H', OwnL E 1 H' K R v (ys ++ xs.drop ys.length) → (∀ B : World, Fr B H → Fr B H') → KL C dr ops Q ims (F H') fl.tail rest ((d, .int .i64 (ys.length : Int)) :: G)) (hlt : Nat.blt d C.n = true := by rfl) (hfl : fl.headD false = false := by rfl) (hdr : (!dr || rest.isEmpty || C.lo) = true := by rfl) :
    KL C dr ops Q ims L fl (⟨some d, .call ⟨.builtin .copy, #[x, y], #[T, T2]⟩, ty, pos, af, none⟩ :: rest) G := by
  obtain ⟨cs, ⟨hcl, hn1, ho⟩, hR⟩ := hv
  rcases ho with ⟨_, _, hn, _⟩ | ⟨b, c, cur, rfl, h2, h3, h4, h5, rfl⟩
  · omega
  obtain ⟨news, ⟨a2, c2, rfl, hnl, hnc⟩, hne⟩ := hu.rd
  simp only [Nat.mul_one] at hnl hcl h4 h5
  have hsz : cur.toList.length = cur.size := by simp
  obtain ⟨b0, o0, _, _, _, rfl, _⟩ := hnc 0 _ (List.getElem?_eq_getElem (by omega))
  have hnR : ∀ i (hi : i < ys.length), R K ((news.drop (i * 1)).take 1) ys[i] := fun i hi => hR0 _ _ (hne i hi)
  refine kl_cpG (b := b) (cur := cur) (o := 0) (dl := xs.length) (dc := c) (cs := news) hx hy rfl rfl (by rw [hnl]; exact (Nat.min_eq_left hle).symm) (by omega) (fun q hq => ?_) (fun w hs j q hj => ?_) ?_ hlt hfl hdr
  · obtain ⟨j, hj, rfl⟩ := List.getElem_of_mem hq
    obtain ⟨u, h6, h7⟩ := one_get hnl hnR (i := j) (by omega)
    have h8 := hO.one h7 u (.head _)
    rw [List.getElem?_eq_getElem hj] at h6
    cases h6; exact h8
  · obtain ⟨b1, o1, cs1, T1, fz1, e1, h6, h7⟩ := hnc j q hj
    simp only [Option.some.injEq, Addr.mk.injEq, and_true] at e1
    obtain ⟨rfl, rfl⟩ := e1
    rw [Addr.add_lit]
    simp [World.cell?, hs.im K2 hi.mem _ _ h6, h7]
  · rw [hnl]
    refine h _ ⟨news ++ cs.drop ys.length, ⟨?_, ?_, .inr ⟨b, c, _, ?_, ?_, h3, ?_, ?_, rfl⟩⟩, fun e he => ?_⟩ (fun B hB => ⟨fun b' hb' => hB.1 b' ?_, liq_sing⟩)
    · rw [List.length_append, List.length_drop, List.length_append, List.length_drop, hcl, hnl, Nat.mul_one]
    · rw [List.length_append, List.length_drop]; omega
    · rw [List.length_append, List.length_drop]; congr 1; omega
    · rw [List.length_append, List.length_drop]; omega
    · simp only [List.size_toArray, List.length_append, List.length_take, List.length_drop]; omega
    · simp only [Nat.zero_add, List.take_zero, List.nil_append]
      rw [List.length_append, List.length_drop, Nat.mul_one, List.take_append, hnl, List.take_of_length_le (by omega), ← h5, List.drop_take]
      congr 2; omega
    · rw [List.length_append, List.length_drop] at he
      simp only [Nat.mul_one]
      by_cases h6 : e < ys.length
      · have h7 := hnR e h6
        simp only [Nat.mul_one] at h7
        rw [List.drop_append_of_le_length (by omega), List.take_append_of_le_length (by rw [List.length_drop]; omega), List.getElem_append_left h6]
        exact h7
      · have h7 := hR e (by omega)
        simp only [Nat.mul_one] at h7
        rw [List.getElem_append_right (by omega), List.getElem_drop, List.drop_append, List.drop_eq_nil_of_le (by omega), List.nil_append, List.drop_drop, hnl]
        have e1 : ys.length + (e - ys.length) = e := by omega
        simpa only [e1] using h7
    · by_cases e : b' = b
      · subst e; simp
      · simp [sing, e] at hb'
/-- copy(x[j:], x[:i]). -/
theorem kl_cpT {i j : Nat} {t u : Value} {F : Hp → List Hp} [hT : IsSlice C.P T E 1 by' z] [hO : ROne R] [hF : UpdF H L F]
    (hx : ev G x = some t) (hy : ev G y = some u) (ht : TailV 1 v t j) (hu : HeadV v u i) (hv : OwnL E 1 H K R v xs) (h0 : i ≤ j) (hj : j < xs.length)
    (h : ∀ H', OwnL E 1 H' K R v (xs.take j ++ xs.take (min i (xs.length - j)) ++ xs.drop (j + min i (xs.length - j))) → (∀ B : World, Fr B H → Fr B H') → KL C dr ops Q ims (F H') fl.tail rest ((d, .int .i64 ((min i (xs.length - j) : Nat) : Int)) :: G)) (hlt : Nat.blt d C.n = true := by rfl) (hfl : fl.headD false = false := by rfl) (hdr : (!dr || rest.isEmpty || C.lo) = true := by rfl) :
    KL C dr ops Q ims L fl (⟨some d, .call ⟨.builtin .copy, #[x, y], #[T, T2]⟩, ty, pos, af, none⟩ :: rest) G := by
  obtain ⟨cs, ⟨hcl, hn1, ho⟩, hR⟩ := hv
  rcases ho with ⟨_, _, hn, _⟩ | ⟨b, c, cur, rfl, h2, h3, h4, h5, rfl⟩
  · omega
  obtain ⟨b1, n1, c1, e1, rfl⟩ := hu
  obtain ⟨b2, n2, c2, e2, rfl⟩ := ht
  simp only [Value.slice.injEq, Option.some.injEq, Addr.mk.injEq, and_true] at e1 e2
  obtain ⟨rfl, rfl, rfl⟩ := e1
  obtain ⟨rfl, rfl, rfl⟩ := e2
  simp only [Nat.mul_one] at hcl h4 h5
  have hcj : c ≠ j := by omega
  have hsz : cur.toList.length = cur.size := by simp
  obtain ⟨m, hm⟩ : ∃ m, min i (xs.length - j) = m := ⟨_, rfl⟩
  rw [hm] at h
  have hnl : (cs.take m).length = m := by rw [List.length_take]; omega
  have hcur : ∀ q, q < xs.length → cur.toList[q]? = cs[q]? := fun q hq => by rw [← h5, List.getElem?_take, if_pos hq]
  refine kl_cpG (b := b) (cur := cur) (cs := cs.take m) (o := j) (dl := xs.length - j) (dc := c - j) hx hy (by rw [if_neg hcj, Nat.mul_one]) rfl (by rw [hnl, ← hm]) (by omega) (fun q hq => ?_) (fun w hs p q hp => ?_) ?_ hlt hfl hdr
  · obtain ⟨p, hp, rfl⟩ := List.getElem_of_mem hq
    rw [hnl] at hp
    obtain ⟨u, h6, h7⟩ := one_get hcl hR (i := p) (by omega)
    have h8 := hO.one h7 u (.head _)
    rw [List.getElem?_eq_getElem (by omega)] at h6
    rw [List.getElem_take]
    cases h6; exact h8
  · have hpl := (List.getElem?_eq_some_iff.1 hp).1
    rw [hnl] at hpl
    rw [List.getElem?_take, if_pos hpl, ← hcur p (by omega)] at hp
    have hA := (hs.own _ (hF.u (sing b (.cells cur E (0, 0)))).mem).1 b _ (sing_self _ _)
    rw [Addr.add_lit]
    simp [World.cell?, hA]; simpa using hp
  · rw [hnl]
    refine h _ ⟨cs.take j ++ cs.take m ++ cs.drop (j + m), ⟨?_, ?_, .inr ⟨b, c, _, ?_, ?_, h3, ?_, ?_, rfl⟩⟩, fun e he => ?_⟩ (fun B hB => ⟨fun b' hb' => hB.1 b' ?_, liq_sing⟩)
    · simp only [List.length_append, List.length_drop, List.length_take, Nat.mul_one, hcl]
    · simp only [List.length_append, List.length_drop, List.length_take]; omega
    · simp only [List.length_append, List.length_drop, List.length_take]; congr 1; omega
    · simp only [List.length_append, List.length_drop, List.length_take]; omega
    · simp only [List.size_toArray, List.length_append, List.length_take, List.length_drop]; omega
    · have hl : (xs.take j ++ xs.take m ++ xs.drop (j + m)).length = xs.length := by simp only [List.length_append, List.length_drop, List.length_take]; omega
      simp only [Nat.mul_one, hl]
      apply List.ext_getElem?
      intro q
      by_cases hq : q < xs.length
      · rw [List.getElem?_take, if_pos hq]
        simp only [List.getElem?_append, List.length_append, List.length_take, List.getElem?_take, List.getElem?_drop, hsz, hcl]
        have e1 : min j cur.size = j := by omega
        have e2 : min m xs.length = m := by omega
        have e3 : min j xs.length = j := by omega
        simp only [e1, e2, e3]
        by_cases hq1 : q < j
        · rw [if_pos (by omega), if_pos hq1, if_pos hq1, if_pos (by omega), if_pos hq1, if_pos hq1]; exact hcur q hq
        · by_cases hq2 : q < j + m
          · rw [if_pos hq2, if_neg hq1, if_pos hq2, if_neg hq1]
          · rw [if_neg hq2, if_neg hq2]; exact hcur _ (by omega)
      · rw [List.getElem?_eq_none (by simp only [List.length_take, List.length_append, List.length_drop, hsz, hnl]; omega), List.getElem?_eq_none (by simp only [List.length_take, List.length_append, List.length_drop, hcl]; omega)]
    · simp only [List.length_append, List.length_drop, List.length_take] at he
      simp only [Nat.mul_one]
      have key : ∀ (q : Nat) (hq : q < xs.length) (hel : e < (xs.take j ++ xs.take m ++ xs.drop (j + m)).length), (xs.take j ++ xs.take m ++ xs.drop (j + m))[e]? = xs[q]? → (cs.take j ++ cs.take m ++ cs.drop (j + m))[e]? = cs[q]? → R K (((cs.take j ++ cs.take m ++ cs.drop (j + m)).drop e).take 1) (xs.take j ++ xs.take m ++ xs.drop (j + m))[e] := fun q hq hel h6 h7 => by
        obtain ⟨u, h8, h9⟩ := one_get hcl hR hq
        rw [h8] at h7
        have hl := (List.getElem?_eq_some_iff.1 h7).1
        rw [List.drop_eq_getElem_cons hl, List.take_succ_cons, List.take_zero, (List.getElem?_eq_some_iff.1 h7).2]
        rw [List.getElem?_eq_getElem hel, List.getElem?_eq_getElem hq] at h6
        simp only [Option.some.injEq] at h6
        rw [h6]; exact h9
      have hel : e < (xs.take j ++ xs.take m ++ xs.drop (j + m)).length := by simp only [List.length_append, List.length_drop, List.length_take]; omega
      have e2 : min m xs.length = m := by omega
      have e3 : min j xs.length = j := by omega
      by_cases hq1 : e < j
      · refine key e (by omega) hel ?_ ?_ <;> simp only [List.getElem?_append, List.length_append, List.length_take, List.getElem?_take, List.getElem?_drop, hcl, e2, e3] <;> rw [if_pos (by omega), if_pos hq1, if_pos hq1]
      · by_cases hq2 : e < j + m
        · refine key (e - j) (by omega) hel ?_ ?_
          · simp only [List.getElem?_append, List.length_append, List.length_take, List.getElem?_take, List.getElem?_drop, hcl, e2, e3]; rw [if_pos hq2, if_neg hq1]; simp [show e - j < m from by omega]
          · simp only [List.getElem?_append, List.length_append, List.length_take, List.getElem?_take, List.getElem?_drop, hcl, e2, e3]; rw [if_pos hq2, if_neg hq1]; simp [show e - j < m from by omega]
        · refine key e (by omega) hel ?_ ?_ <;> simp only [List.getElem?_append, List.length_append, List.length_take, List.getElem?_take, List.getElem?_drop, hcl, e2, e3] <;> first | (rw [if_neg hq2, show j + m + (e - (j + m)) = e from by omega]; done) | (rw [if_neg hq2]; done)
    · by_cases e : b' = b
      · subst e; simp
      · simp [sing, e] at hb'
theorem kl_gtrK {κ : IntKind} {m k : Int} {T3 T4 : Nat} (hx : ev G x = some (.int κ m)) (hy : ev G y = some (.int κ k)) (h : KL C dr ops Q ims L fl.tail rest ((d, .bool (decide (k < m))) :: G)) (hlt : Nat.blt d C.n = true := by rfl) :
    KL C dr ops Q ims L fl (⟨some d, .binOp .gtr T3 x y T4, ty, pos, af, none⟩ :: rest) G :=
  kl_y (fun a w hf _ => by simp [go_sem, hf _ _ hx, hf _ _ hy]) h hlt
end ops
theorem kq_blk {C : Cx} {ims L : List Hp} {G : Env} {id : Nat} {Q : Post} (h : KQ C ims L G (Q .ret)) : KQ C ims L G (Exit.inBlock id Q .ret) := fun a w hf hs => h a w hf hs
theorem rep_one {A : Type} {x : List A} {d : A} (h : x.length = 1) : x = [x.getD 0 d] := by
  cases x with
  | nil => simp at h
  | cons a r => cases r with
    | nil => rfl
    | cons b r => simp at h
theorem rep_init {A : Type} {x : List A} {d : A} {c : Nat} (h : x = [x.getD 0 d]) (hc : 1 ≤ c) : x ++ (List.replicate c d).drop 1 = List.replicate 1 (x.getD 0 d) ++ List.replicate (c - 1) d := by
  rw [List.drop_replicate]; conv => lhs; rw [h]
  rfl
theorem rep_step {A : Type} {ns : List A} {d a : A} {c k : Nat} (h : ns = List.replicate k a ++ List.replicate (c - k) d) (hk : k ≤ c) :
    ns.take k ++ ns.take (min k (ns.length - k)) ++ ns.drop (k + min k (ns.length - k)) = List.replicate (k + min k (ns.length - k)) a ++ List.replicate (c - (k + min k (ns.length - k))) d := by
  have hl : ns.length = c := by rw [h]; simp; omega
  rw [hl]
  have e1 : ns.take k = List.replicate k a := by rw [h, List.take_append_of_le_length (by simp), List.take_replicate, Nat.min_self]
  have e2 : ns.take (min k (c - k)) = List.replicate (min k (c - k)) a := by rw [h, List.take_append_of_le_length (by simp; omega), List.take_replicate]; congr 1; omega
  have e3 : ns.drop (k + min k (c - k)) = List.replicate (c - (k + min k (c - k))) d := by
    rw [h, List.drop_append, List.drop_replicate, List.drop_replicate, List.length_replicate, show k - (k + min k (c - k)) = 0 from by omega, List.replicate_zero, List.nil_append]; congr 1; omega
  rw [e1, e2, e3, List.replicate_append_replicate]
theorem rep_end {A : Type} {ns : List A} {d a : A} {c k : Nat} (h : ns = List.replicate k a ++ List.replicate (c - k) d) (hk : k = c) : ns = List.replicate c a := by
  subst hk; rw [h]; simp
end Go.Proofs.Ytidllhcfcmjggaa
