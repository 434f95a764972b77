/- clear of the tail of an owned list. Conditions: none. -/
import Derived.Test.YtiilanckbocifaaGreatCut
namespace Go.Proofs.YtiilanckbocifaaGreat
open Go
set_option linter.unusedSimpArgs false
set_option linter.unusedVariables false
section ops
variable {C : Cx} {dr : Bool} {ops : Array Oper} {Q : Post} {ims L : List Hp} {G : Env} {fl : List Bool} {rest : List Oper} {d ty : Nat} {pos : String} {af : Array Edge}
variable {A : Type} {R : Rel A} {E k : Nat} {H K : Hp} {v : Value} {xs : List A} {x y : Operand} {T k' by' : Nat} {z : Value}
/-- clear(x[j:]), elements of one cell. -/
theorem kl_clrT {j : Nat} {u : Value} (z0 : A) {F : Hp → List Hp} [hT : IsSlice C.P T E 1 by' z] [hF : UpdF H L F]
    (hx : ev G x = some u) (hu : TailV 1 v u j) (hv : OwnL E 1 H K R v xs) (h0 : 0 < xs.length) (hj : j ≤ xs.length) (hzc : z.cells = #[z]) (hz0 : R K [z] z0) (hz1 : z.oneCell' = true)
    (h : ∀ H', OwnL E 1 H' K R v (xs.take j ++ List.replicate (xs.length - j) z0) → (∀ B : World, Fr B H → Fr B H') → KL C dr ops Q ims (F H') fl.tail rest G) (hfl : fl.headD false = false := by rfl) (hdr : (!dr || rest.isEmpty || C.lo) = true := by rfl) :
    KL C dr ops Q ims L fl (⟨none, .call ⟨.builtin .clear, #[x], #[T]⟩, ty, pos, af, none⟩ :: rest) G :=
  kl_act rfl hfl fun a w hf hs => by
    obtain ⟨inf, hinfo, hz, hk, hbb⟩ := hT.info
    obtain ⟨cs, ⟨hcl, hn1, ho⟩, hR⟩ := hv
    rcases ho with ⟨_, _, hn, _⟩ | ⟨b, c, cur, rfl, h2, h3, h4, h5, rfl⟩
    · omega
    obtain ⟨b2, n2, c2, e2, rfl⟩ := hu
    simp only [Value.slice.injEq, Option.some.injEq, Addr.mk.injEq, and_true] at e2
    obtain ⟨rfl, rfl, rfl⟩ := e2
    simp only [Nat.mul_one] at hcl h4 h5
    have hdr' : rest = [] ∨ (dr = true → C.lo = true) := by
      cases dr with
      | true =>
        simp only [Bool.not_true, Bool.false_or, Bool.or_eq_true, List.isEmpty_iff] at hdr
        exact hdr.imp id (fun h _ => h)
      | false => right; intro e; cases e
    have hA := (hs.own _ (hF.u (sing b (.cells cur E (0, 0)))).mem).1 b _ (sing_self _ _)
    by_cases hjn : j = xs.length
    · have hr : (execOp a.eval ⟨none, .call ⟨.builtin .clear, #[x], #[T]⟩, ty, pos, af, none⟩).run C.P w = .ok (.value (.tuple #[])) w := by
        simp only [execOp, resolve, Sem.run_bind, Sem.run_pure, Result.andThen_ok, invoke, builtin, List.map_toArray, List.map_cons, List.map_nil, hf.ev hx]
        simp [Builtin.clear_, run_underlying hT.u, hjn]
      unfold Oper.wp
      rw [hr]
      have hown := (hs.own _ (hF.u (sing b (.cells cur E (0, 0)))).mem)
      have hv2 : OwnL E 1 (sing b (.cells cur E (0, 0))) K R (.slice (some ⟨b, 0, none⟩) xs.length c) (xs.take j ++ List.replicate (xs.length - j) z0) := by
        rw [hjn, List.take_length, Nat.sub_self, List.replicate_zero, List.append_nil]
        exact ⟨cs, ⟨by rw [Nat.mul_one]; exact hcl, hn1, .inr ⟨b, c, cur, rfl, h2, h3, by rw [Nat.mul_one]; exact h4, by rw [Nat.mul_one]; exact h5, rfl⟩⟩, hR⟩
      exact ⟨ims, F (sing b (.cells cur E (0, 0))), _, hdr'.imp id (fun h e u hu => hu.wlo (h e)), hf.putNone, hs.upd (u := ⟨hF.u _⟩) (Nat.le_refl _) (fun _ _ _ => rfl) hown.1 (fun b hb => .inl hb) (Io.refl _), h _ hv2 (fun B hB => hB)⟩
    · have hcj : c ≠ j := by omega
      have hzl : (Builtin.zeroCells z.cells (xs.length - j)).toList = List.replicate (xs.length - j) z := by
        rw [hzc]; apply List.ext_getElem
        · simp [Builtin.zeroCells]
        · intro q h6 h7; simp [Builtin.zeroCells, Nat.mod_one]
      have hst := run_storeCells_at C.P b j E (List.replicate (xs.length - j) z) 0 cur w hA (by rw [List.length_replicate]; omega) (fun v hv => by rw [(List.mem_replicate.1 hv).2]; exact hz1)
      simp only [Nat.add_zero, List.length_replicate] at hst
      have hr : (execOp a.eval ⟨none, .call ⟨.builtin .clear, #[x], #[T]⟩, ty, pos, af, none⟩).run C.P w = .ok (.value (.tuple #[])) (w.setRow b (cur.toList.take j ++ List.replicate (xs.length - j) z ++ cur.toList.drop (j + (xs.length - j))).toArray) := by
        simp only [execOp, resolve, Sem.run_bind, Sem.run_pure, Result.andThen_ok, invoke, builtin, List.map_toArray, List.map_cons, List.map_nil, hf.ev hx]
        rw [if_neg hcj, Nat.mul_one]
        obtain ⟨q, hq⟩ : ∃ q, xs.length - j = q + 1 := ⟨xs.length - j - 1, by omega⟩
        rw [hq] at hst hzl ⊢
        simp [Builtin.clear_, run_underlying hT.u, zeroValue, typeInfo, hinfo, hz, hzl, hst]
      unfold Oper.wp
      rw [hr]
      have hszc : cur.toList.length = cur.size := by simp
      have hl : (xs.take j ++ List.replicate (xs.length - j) z0).length = xs.length := by simp; omega
      refine ⟨ims, F (sing b (.cells (cur.toList.take j ++ List.replicate (xs.length - j) z ++ cur.toList.drop (j + (xs.length - j))).toArray E (0, 0))), _, hdr'.imp id (fun h e u hu => hu.wlo (h e)), hf.putNone, hs.upd (u := ⟨hF.u _⟩) (by simp) (fun b' _ hn => ?_) (fun b' o' hb' => ?_) (fun b' hb' => .inl ?_) ⟨rfl, rfl⟩,
        h _ ⟨cs.take j ++ List.replicate (xs.length - j) z, ⟨?_, ?_, .inr ⟨b, c, _, ?_, ?_, h3, ?_, ?_, rfl⟩⟩, fun e he => ?_⟩ (fun B hB => ⟨fun b' hb' => hB.1 b' ?_, liq_sing⟩)⟩
      · have hne : b' ≠ b := fun e => by subst e; simp at hn
        exact setRow_other w b b' _ hne
      · obtain ⟨rfl, rfl⟩ := sing_some hb'
        exact setRow_heap w _ cur _ E _ hA
      · by_cases e : b' = b
        · subst e; simp
        · simp [sing, e] at hb'
      · rw [hl]; simp; omega
      · rw [hl]; omega
      · rw [hl]
      · rw [hl]; exact h2
      · simp only [List.size_toArray, List.length_append, List.length_take, List.length_drop, List.length_replicate]; omega
      · rw [hl, Nat.mul_one]
        simp only []
        rw [← h5, List.take_take, Nat.min_eq_left hj]
        have : (cur.toList.take j ++ List.replicate (xs.length - j) z).length = xs.length := by simp; omega
        rw [List.take_append_of_le_length (by omega), List.take_of_length_le (by omega)]
      · rw [hl] at he
        simp only [Nat.mul_one]
        by_cases h6 : e < j
        · have h7 := hR e he
          simp only [Nat.mul_one] at h7
          rw [List.drop_append_of_le_length (by simp; omega), List.take_append_of_le_length (by simp; omega), List.drop_take, List.take_take, Nat.min_eq_left (by omega), List.getElem_append_left (by simp; omega), List.getElem_take]
          exact h7
        · rw [List.getElem_append_right (by simp; omega), List.getElem_replicate, List.drop_append, List.drop_eq_nil_of_le (by simp; omega), List.nil_append, List.drop_replicate, List.length_take, Nat.min_eq_left (by omega)]
          obtain ⟨q, hq⟩ : ∃ q, xs.length - j - (e - j) = q + 1 := ⟨xs.length - j - (e - j) - 1, by omega⟩
          rw [hq, List.replicate_succ, List.take_succ_cons, List.take_zero]; exact hz0
      · by_cases e : b' = b
        · subst e; simp
        · simp [sing, e] at hb'
end ops
end Go.Proofs.YtiilanckbocifaaGreat
