/- Marks on a list of rows, each in a block of its own: exact. Conditions: none. -/
import Derived.Test.YtiilanckbocifaaMap2
import Derived.Test.YtiilanckbocifaaPure
namespace Go.Proofs.Ytiilanckbocifaa
open Go
set_option linter.unusedSimpArgs false
set_option linter.unusedVariables false
/-- One row alone, the others beside it. -/
theorem Mat.row {EH E : Nat} {H K : Hp} {v : Value} {us : List Value} {xss : List (List Int)} (h : Mat EH E encI H K v us xss) {i : Nat} (hi : i < xss.length) :
    ∃ Ki Kr : Hp, K = orHp Ki Kr ∧ Apart Ki Kr ∧ Liq Ki ∧ Ints Ki (us.getD i undef) (xss.getD i []) ∧
      ∀ (Ki' : Hp) (ys : List Int), Mk Ki Ki' → Ints Ki' (us.getD i undef) ys → ys.length = (xss.getD i []).length → Mat EH E encI H (orHp Ki' Kr) v us (xss.set i ys) := by
  obtain ⟨bs, h1, h2, h3⟩ := h.bs
  have hb := h3 i hi
  obtain ⟨b, hbb⟩ : ∃ b, bs.getD i 0 = b := ⟨_, rfl⟩
  rw [hbb] at hb
  obtain ⟨Ki, hKi⟩ : ∃ Ki : Hp, Ki = fun b' => if b' = b then K b' else none := ⟨_, rfl⟩
  obtain ⟨Kr, hKr⟩ : ∃ Kr : Hp, Kr = fun b' => if b' = b then none else K b' := ⟨_, rfl⟩
  have i1 : Ki b = K b := by rw [hKi]; simp
  have i2 : ∀ b', b' ≠ b → Ki b' = none := fun b' hn => by rw [hKi]; simp [hn]
  have r1 : Kr b = none := by rw [hKr]; simp
  have r2 : ∀ b', b' ≠ b → Kr b' = K b' := fun b' hn => by rw [hKr]; simp [hn]
  have hs : Ints Ki (us.getD i undef) (xss.getD i []) := hb.ints i1
  obtain ⟨c, cur, eu, q2, q3, q4, q5, q6, q7⟩ := hb
  have lq : Liq Ki := fun q o hq => by
    by_cases e : q = b
    · subst e; rw [i1] at hq; exact h.lq q o hq
    · rw [i2 q e] at hq; cases hq
  refine ⟨Ki, Kr, ?_, ?_, lq, hs, ?_⟩
  · funext b'
    by_cases e : b' = b
    · subst e; unfold orHp; rw [i1, r1]; cases K b' <;> rfl
    · unfold orHp; rw [i2 b' e, r2 b' e]; rfl
  · intro b'
    by_cases e : b' = b
    · subst e; exact .inr r1
    · exact .inl (i2 b' e)
  · intro Ki' ys hm hy hl
    obtain ⟨cur', k1, k2, _⟩ := hm.2 b cur E (0, 0) (by rw [i1]; exact q7)
    have n1 : ∀ b', b' ≠ b → Ki' b' = none := fun b' hn => hm.1 b' (i2 b' hn)
    refine ⟨by rw [List.length_set]; exact h.hd, ⟨bs, by rw [List.length_set]; exact h1, h2, fun q hq => ?_⟩, ?_⟩
    · rw [List.length_set] at hq
      by_cases e : q = i
      · subst e
        have e1 : (xss.set q ys).getD q [] = ys := by simp [List.getD, hq]
        rw [e1, hbb]
        obtain ⟨a2, c2, ea, _, _, hcell⟩ := hy
        refine ⟨c, cur', by rw [hl]; exact eu, by rw [hl]; exact q2, q3, by rw [k2]; exact q4, by rw [hl]; exact q5, ?_, by unfold orHp; rw [k1]; rfl⟩
        apply List.ext_getElem
        · simp; omega
        · intro j j1 j2
          have hj : j < ys.length := by simpa using j2
          obtain ⟨b3, o3, e3, vs, l3, r3, t3⟩ := hcell j hj
          rw [eu] at ea
          simp only [Value.slice.injEq] at ea
          rw [e3] at ea
          simp only [Option.some.injEq, Addr.mk.injEq, and_true] at ea
          obtain ⟨⟨rfl, rfl⟩, _, _⟩ := ea
          obtain ⟨b4, o4, cs4, T4, fz4, e4, e5, e6⟩ := t3
          simp only [Value.pointer.injEq, Option.some.injEq, Addr.mk.injEq, and_true] at e4
          obtain ⟨rfl, rfl⟩ := e4
          rw [k1] at e5
          simp only [Option.some.injEq, Obj.cells.injEq] at e5
          obtain ⟨rfl, _, _⟩ := e5
          unfold IntC at r3
          subst r3
          have h9 := e6 0 (.int .i64 ys[j]) rfl
          rw [List.getElem_take, List.getElem_map]
          have hjs : j < cur'.size := by
            have : ys.length ≤ cur'.size := by rw [hl, k2]; omega
            omega
          have h8 : cur'[j]? = some (.int .i64 ys[j]) := by simpa using h9
          rw [Array.getElem?_eq_getElem hjs] at h8
          simpa [encI] using h8
      · have e1 : (xss.set i ys).getD q [] = xss.getD q [] := by
          have e' : i ≠ q := fun h => e h.symm
          simp [List.getD, List.getElem?_set, e']
        rw [e1]
        have hne : bs.getD q 0 ≠ b := fun e2 => by
          have hq1 : q < bs.length := by omega
          have hi1 : i < bs.length := by omega
          rw [← hbb, List.getD_eq_getElem?_getD, List.getElem?_eq_getElem hq1, List.getD_eq_getElem?_getD, List.getElem?_eq_getElem hi1, Option.getD_some, Option.getD_some] at e2
          rcases Nat.lt_or_gt_of_ne e with h9 | h9
          · exact absurd e2 (List.pairwise_iff_getElem.1 h2 q i hq1 hi1 h9)
          · exact absurd e2.symm (List.pairwise_iff_getElem.1 h2 i q hi1 hq1 h9)
        refine (h3 q hq).mono ?_
        unfold orHp
        rw [n1 _ hne, r2 _ hne]; rfl
    · refine liq_or (hm.liq lq) (fun q o hq => ?_)
      by_cases e : q = b
      · subst e; rw [r1] at hq; cases hq
      · rw [r2 q e] at hq; exact h.lq q o hq
/-! The marks themselves. -/
def markLL (k : Int) : List (List Int) → List (List Int)
  | [] => []
  | r :: rs => markL k r.length :: markLL (k + (r.length : Int)) rs
def mkTo (k : Int) (xss : List (List Int)) (i : Nat) : List (List Int) := markLL k (xss.take i) ++ xss.drop i
theorem markLL_len (k : Int) (xss : List (List Int)) : (markLL k xss).length = xss.length := by
  induction xss generalizing k with
  | nil => rfl
  | cons r rs ih => simp [markLL, ih]
theorem markLL_app (k : Int) (a : List (List Int)) (r : List Int) : markLL k (a ++ [r]) = markLL k a ++ [markL (k + (rsum a : Nat)) r.length] := by
  induction a generalizing k with
  | nil => simp [markLL, rsum]
  | cons x xs ih =>
    rw [List.cons_append, markLL, markLL, ih, List.cons_append]
    have : k + (x.length : Int) + ((rsum xs : Nat) : Int) = k + ((rsum (x :: xs) : Nat) : Int) := by simp [rsum]; omega
    rw [this]
theorem mkTo_0 (k : Int) (xss : List (List Int)) : mkTo k xss 0 = xss := by simp [mkTo, markLL]
theorem mkTo_len {k : Int} {xss : List (List Int)} {i : Nat} (h : i ≤ xss.length) : (mkTo k xss i).length = xss.length := by
  unfold mkTo; rw [List.length_append, markLL_len, List.length_take, List.length_drop]; omega
theorem mkTo_at {k : Int} {xss : List (List Int)} {i : Nat} (h : i < xss.length) : (mkTo k xss i).getD i [] = xss.getD i [] := by
  unfold mkTo
  have hl : (markLL k (xss.take i)).length = i := by rw [markLL_len, List.length_take]; omega
  rw [List.getD_eq_getElem?_getD, List.getElem?_append_right (by omega), hl, Nat.sub_self, List.getElem?_drop, Nat.add_zero, ← List.getD_eq_getElem?_getD]
theorem mkTo_step {k : Int} {xss : List (List Int)} {i : Nat} (h : i < xss.length) : (mkTo k xss i).set i (markL (k + (rsum (xss.take i) : Nat)) (xss.getD i []).length) = mkTo k xss (i + 1) := by
  unfold mkTo
  have hl : (markLL k (xss.take i)).length = i := by rw [markLL_len, List.length_take]; omega
  rw [take_succ_getD [] h, markLL_app, List.set_append_right _ _ (by omega), hl, Nat.sub_self, List.drop_eq_getElem_cons h, List.set_cons_zero, List.append_assoc]
  rfl
theorem mkTo_end {k : Int} {xss : List (List Int)} {i : Nat} (h : i = xss.length) : mkTo k xss i = markLL k xss := by
  subst h; unfold mkTo; rw [List.take_length, List.drop_length, List.append_nil]
def heldSS : List (List Int) → Int → Int
  | [], k => k
  | r :: rs, k => if heldI r k < 0 then -1 else heldSS rs (heldI r k)
theorem heldSS_mark {k : Int} (xss : List (List Int)) (hk : 0 ≤ k) : heldSS (markLL k xss) k = k + ((rsum xss : Nat) : Int) := by
  induction xss generalizing k with
  | nil => simp [markLL, heldSS, rsum]
  | cons r rs ih =>
    rw [markLL, heldSS, held_mark, if_neg (by omega), ih (by omega)]
    simp [rsum]; omega
theorem heldI_cases (a : List Int) (k : Int) : heldI a k = k + (a.length : Int) ∨ heldI a k = -1 := by unfold heldI; split <;> simp
theorem drop_cons {A : Type} {xs : List A} {i : Nat} (d : A) (h : i < xs.length) : xs.drop i = xs.getD i d :: xs.drop (i + 1) := by
  rw [List.drop_eq_getElem_cons h]; simp [List.getD, h]
structure HsI (a : List (List Int)) (k : Int) (i : Nat) (l : Int) : Prop where
  e : heldSS (a.drop i) l = heldSS a k
  n : 0 ≤ l
  b : l + ((rsum (a.drop i) : Nat) : Int) ≤ 4611686018427387904
theorem hs_0 {a : List (List Int)} {k : Int} (h : 0 ≤ k ∧ k + ((rsum a : Nat) : Int) ≤ 4611686018427387904) : HsI a k 0 k := ⟨rfl, h.1, h.2⟩
theorem hs_step {a : List (List Int)} {k l : Int} {i : Nat} (h : HsI a k i l) (hi : i < a.length) (c : ¬ heldI (a.getD i []) l < 0) : HsI a k (i + 1) (heldI (a.getD i []) l) := by
  have e := h.e
  have b := h.b
  rw [drop_cons [] hi] at e b
  rw [heldSS, if_neg c] at e
  rcases heldI_cases (a.getD i []) l with h9 | h9
  · have hn := h.n
    refine ⟨e, by omega, ?_⟩
    rw [h9]
    simp [rsum] at b ⊢
    omega
  · omega
theorem hs_no {a : List (List Int)} {k l : Int} {i : Nat} (h : HsI a k i l) (hi : i < a.length) (c : heldI (a.getD i []) l < 0) : (-1 : Int) = heldSS a k := by
  have e := h.e
  rw [drop_cons [] hi, heldSS, if_pos c] at e
  exact e
theorem hs_end {a : List (List Int)} {k l : Int} {i : Nat} (h : HsI a k i l) (hi : i = a.length) : l = heldSS a k := by
  have e := h.e
  rw [hi, List.drop_length] at e
  exact e
theorem hs_b {a : List (List Int)} {k l : Int} {i : Nat} (h : HsI a k i l) : l ≤ 4611686018427387904 := by have := h.b; omega
theorem rsum_mk (k : Int) (xss : List (List Int)) : rsum (markLL k xss) = rsum xss := by
  induction xss generalizing k with
  | nil => rfl
  | cons r rs ih => have := ih (k + (r.length : Int)); simp [markLL, rsum, markL_len] at this ⊢; exact this
theorem held_1 (xss : List (List Int)) : heldSS (markLL 1 xss) 1 = 1 + ((rsum xss : Nat) : Int) := heldSS_mark xss (by decide)
end Go.Proofs.Ytiilanckbocifaa
